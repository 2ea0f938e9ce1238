/- Part of the proof; written by a program out of the texts in wip/. -/
import Derived.Test.YthipedbbcjemhaaPlanFitsOk3
namespace Go.Sh
open Go Go.Eng Go.Proofs
set_option linter.unusedVariables false
set_option linter.unusedSimpArgs false
set_option maxRecDepth 100000
set_option maxHeartbeats 4000000
attribute [local irreducible] vc ev Zdz opsD opsF ZfG upd updH updO
theorem law24_PlanFits_ok (N:Nat) (a0_:Zav) (a1_:Zf) (a2_:Int) (a3_:ZaE) (a4_:(List Int)) (a5_:(List Int)) (r:Bool) (h:Zde N a0_ a1_ a2_ a3_ a4_ a5_=some r):Z4 Try.prog 3 [.agg (Zo a0_),.agg (Zc a1_),.p (.int .u8 a2_),.agg (ZH a3_),Ze false a4_,ZQ false a5_] (bv r):=by
 unfold Zde at h
 have hH:HP ([]:List HO) []:=trivial
 refine ZF chk3 rfl rfl (Zv _ _ _ ?_) rfl
 refine sq (rg Za.f ?_)
 refine tq (sq ?_)
 refine sq ?_
 obtain ⟨r1,hr1,h⟩:=bs h
 refine rg (Za.v 3 (Zu (hc:=Zhq N a0_ a1_ a2_ r1 hr1)) Za.f) (tq ?_)
 refine bk (Zez 18 ?_)
 refine Zal ?_
 refine sq (rg Za.f ?_)
 refine tq (sq ?_)
 refine Zbb (by kernel_rfl) ?_
 refine sk (tq ?_)
 refine kq (sq ?_)
 refine bk (sq ?_)
 refine rg Za.f (tq ?_)
 refine sq ?_
 obtain ⟨r2,hr2,h⟩:=bs h
 obtain ⟨r3,hr3,h⟩:=bs h
 refine rg (Za.v 1 (Zu (hc:=Za6 N a0_ r2 hr2)) (Za.v 1 (Zu (hc:=ZeT N r2 a5_ r3 hr3)) Za.f)) (tq ?_)
 refine sq (rg Za.f ?_)
 refine tq ?_
 obtain ⟨j504,hj504,h⟩:=bs h
 refine Zbz [2,4,5,6,9,14,15,16,17,33,34] (fun s=>s=⟨[(2,.p (.int .u8 a2_)),(4,Ze false a4_),(5,ZQ false a5_),(6,.loc 6 0),(9,.loc 9 0),(14,.loc 14 0),(15,Ze false r3),(16,iv j504.1),(17,iv j504.2),(33,.agg (Zn r1)),(34,iv 0)],[(6,(Zo a0_)),(9,(ZH a3_)),(14,(Zc r1.x0))],[]⟩) ?_ ?_
 ·clear h
  have h:=hj504
  refine sq (rg (Za.u 1 (Zk (ys:=[Ze false r3]) (h:=Zr eI64)) Za.f) ?_)
  refine tq (it h (fun hc505 h => ?_) (fun hc505 h => ?_))
  ·obtain ⟨m506,hm506,h⟩:=bs h
   obtain ⟨m507,hm507,h⟩:=bs h
   refine rq (Za.u 3 (Zk (ys:=[Ze false r3]) (h:=Zr eI64)) (Za.u 0 (Zk (ys:=[iv (w64 (a2_)),iv ((List.length r3:Nat):Int)]) (h:=Zaj hm506)) (Za.u 4 (Zk (ys:=[Ze false r3]) (h:=Zr eI64)) (Za.u 0 (Zk (ys:=[iv (w64 (Int.tdiv (w64 (a2_)) 5)),iv ((List.length r3:Nat):Int)]) (h:=Zaj hm507)) Za.f)))) ?_
   obtain rfl:=Zb h
   exact ⟨rfl,(by show _=_;kernel_rfl)⟩
  refine sk ?_
  obtain rfl:=Zb h
  exact ⟨rfl,(by show _=_;kernel_rfl)⟩
 clear hj504
 rintro s hR
 obtain rfl:=hR
 refine sq ?_
 obtain ⟨a508,H509,ha508,hH509,hH⟩:=HP.lit 4 [a3_] Zt hH
 replace hH:HP H509 [.arr a508 4 false (List.map Zt [a3_])]:=hH
 have hfa508:=ZB (HP.get hH 0 rfl)
 refine rgS ⟨[(2,.p (.int .u8 a2_)),(4,Ze false a4_),(5,ZQ false a5_),(6,.loc 6 0),(9,.loc 9 0),(14,.loc 14 0),(15,Ze false r3),(16,iv j504.1),(17,iv j504.2),(18,a508),(33,.agg (Zn r1)),(34,iv 0)],[(6,(Zo a0_)),(9,(ZH a3_)),(14,(Zc r1.x0))],H509⟩ (Za.h 1 (Zj3 (H:=[]) (ys:=[.agg (ZH a3_)]) (rows:=(List.map Zt [a3_])) (by kernel_rfl) (by kernel_rfl) (by kernel_rfl) ha508 hH509) Za.f) (by rcases hfa508 with ha508e | ⟨_,_,ha508e⟩<;>subst ha508e<;>kernel_rfl) ?_
 refine tq ?_
 obtain ⟨j1012,hj1012,h⟩:=bs h
 refine Zbz [2,4,5,6,9,14,15,18,33,34] (fun s=>∃ (a1010:AV) (H1011:List HO),s=⟨[(2,.p (.int .u8 a2_)),(4,Ze false a4_),(5,ZQ false a5_),(6,.loc 6 0),(9,.loc 9 0),(14,.loc 14 0),(15,Ze false r3),(18,a1010),(33,.agg (Zn r1)),(34,iv 0)],[(6,(Zo a0_)),(9,(ZH a3_)),(14,(Zc r1.x0))],H1011⟩∧HP H1011 [.arr a1010 4 false (List.map Zt j1012)]) ?_ ?_
 ·clear h
  have h:=hj1012
  refine sq (rgS ⟨[(2,.p (.int .u8 a2_)),(4,Ze false a4_),(5,ZQ false a5_),(6,.loc 6 0),(9,.loc 9 0),(14,.loc 14 0),(15,Ze false r3),(16,iv j504.1),(17,iv j504.2),(18,a508),(33,.agg (Zn r1)),(34,iv 0),(59,bv (decide (((List.length r3:Nat):Int) > 0)))],[(6,(Zo a0_)),(9,(ZH a3_)),(14,(Zc r1.x0))],H509⟩ (Za.u 1 (Zk (ys:=[Ze false r3]) (h:=Zr eI64)) Za.f) (by rcases hfa508 with ha508e | ⟨_,_,ha508e⟩<;>subst ha508e<;>kernel_rfl) ?_)
  refine tq (it h (fun hc1013 h => ?_) (fun hc1013 h => ?_))
  ·obtain ⟨e1014,he1014,h⟩:=bs h
   obtain ⟨e1015,he1015,h⟩:=bs h
   obtain ⟨l1018,hl1018,h⟩:=bs h
   obtain ⟨a1016,H1017,ha1016,hH⟩:=HP.app (k:=0) (a:=a508) (sz:=4) (frz:=false) Zt hH rfl hl1018
   replace hH:HP H1017 [.arr a1016 4 false (List.map Zt l1018)]:=hH
   have hfa1016:=ZB (HP.get hH 0 rfl)
   refine rqS ⟨[(2,.p (.int .u8 a2_)),(4,Ze false a4_),(5,ZQ false a5_),(6,.loc 6 0),(9,.loc 9 0),(14,.loc 14 0),(15,Ze false r3),(18,a1016),(33,.agg (Zn r1)),(34,iv 0)],[(6,(Zo a0_)),(9,(ZH a3_)),(14,(Zc r1.x0))],H1017⟩ (Za.u 4 (Zk (ys:=[Ze false r3,iv j504.1]) (h:=Zl eI64 he1014)) (Za.u 0 (ZI (Zz (sz:=1) (off:=0) (cs:=[.int .i64 e1014]) (r:=iv e1014) eI64 he1014)) (Za.u 3 (Zk (ys:=[Ze false r3,iv j504.2]) (h:=Zl eI64 he1015)) (Za.u 0 (ZI (Zz (sz:=1) (off:=0) (cs:=[.int .i64 e1015]) (r:=iv e1015) eI64 he1015)) (Za.h 2 (Zeb (H:=H509) (a:=a508) (b:=Zfm true [(ZaE.mk j504.1 e1014 j504.2 e1015)]) (by rcases hfa508 with ha508e | ⟨_,_,ha508e⟩<;>subst ha508e<;>kernel_rfl) (by rcases hfa508 with ha508e | ⟨_,_,ha508e⟩<;>subst ha508e<;>kernel_rfl) (by rcases hfa508 with ha508e | ⟨_,_,ha508e⟩<;>subst ha508e<;>kernel_rfl) (by rcases hfa508 with ha508e | ⟨_,_,ha508e⟩<;>subst ha508e<;>kernel_rfl) ha1016) Za.f))))) (by rcases hfa1016 with ha1016e | ⟨_,_,ha1016e⟩<;>rcases hfa508 with ha508e | ⟨_,_,ha508e⟩<;>subst ha1016e ha508e<;>kernel_rfl) ?_
   obtain rfl:=Zb h
   exact ⟨rfl,⟨a1016,H1017,(by show _=_;rcases hfa1016 with ha1016e | ⟨_,_,ha1016e⟩<;>subst ha1016e<;>kernel_rfl),(HP.pick hH [0] rfl)⟩⟩
  refine sk ?_
  obtain rfl:=Zb h
  exact ⟨rfl,⟨a508,H509,(by show _=_;rcases hfa508 with ha508e | ⟨_,_,ha508e⟩<;>subst ha508e<;>kernel_rfl),(HP.pick hH [0] rfl)⟩⟩
 clear hj1012
 rintro s hR
 obtain ⟨a1010,H1011,rfl,hH⟩:=hR
 replace hH:HP H1011 [.arr a1010 4 false (List.map Zt j1012)]:=hH
 have hfa1010:=ZB (HP.get hH 0 rfl)
 refine sq (sq ?_)
 refine rgS ⟨[(2,.p (.int .u8 a2_)),(4,Ze false a4_),(5,ZQ false a5_),(6,.loc 6 0),(9,.loc 9 0),(14,.loc 14 0),(15,Ze false r3),(18,a1010),(19,iv 0),(33,.agg (Zn r1)),(34,iv 0)],[(6,(Zo a0_)),(9,(ZH a3_)),(14,(Zc r1.x0))],H1011⟩ Za.f (by rcases hfa1010 with ha1010e | ⟨_,_,ha1010e⟩<;>subst ha1010e<;>kernel_rfl) ?_
 refine tq (bk ?_)
 obtain ⟨o1551,ho1551,h⟩:=bs h
 refine ZW ((ZN (fun (x:Int) s=>s=⟨[(2,.p (.int .u8 a2_)),(4,Ze false a4_),(5,ZQ false a5_),(6,.loc 6 0),(9,.loc 9 0),(14,.loc 14 0),(15,Ze false r3),(18,a1010),(19,iv x),(33,.agg (Zn r1)),(34,iv 0)],[(6,(Zo a0_)),(9,(ZH a3_)),(14,(Zc r1.x0))],H1011⟩) (fun x:Int=>Za0 N r1 j1012 x) (fun (p:(Unit) ⊕ (Bool)) e s=>match p with | (.inl p)=>e = .exit 2∧(s=⟨[(2,.p (.int .u8 a2_)),(4,Ze false a4_),(5,ZQ false a5_),(6,.loc 6 0),(9,.loc 9 0),(14,.loc 14 0),(15,Ze false r3),(33,.agg (Zn r1)),(34,iv 0)],[(6,(Zo a0_)),(9,(ZH a3_)),(14,(Zc r1.x0))],H1011⟩) | (.inr p)=>e = .ret∧∃ xs,resL s i3.res=some xs∧Zat xs=bv p) ?_ N _ o1551 _ ho1551 (by show _=_;rcases hfa1010 with ha1010e | ⟨_,_,ha1010e⟩<;>subst ha1010e<;>kernel_rfl)).mono ?_)
 ·clear h ho1551
  rintro i1019 o s h hR
  obtain rfl:=hR
  replace h:Za0 N r1 j1012 i1019=some o:=h
  unfold Za0 at h
  refine sq (sq ?_)
  have hln1520:=HP.len (k:=0) (a:=a1010) (sz:=4) (frz:=false) (l:=j1012) Zt hH rfl
  refine rgS ⟨[(2,.p (.int .u8 a2_)),(4,Ze false a4_),(5,ZQ false a5_),(6,.loc 6 0),(9,.loc 9 0),(14,.loc 14 0),(15,Ze false r3),(18,a1010),(19,iv i1019),(33,.agg (Zn r1)),(34,iv 0),(77,bv (decide (i1019<((List.length j1012:Nat):Int))))],[(6,(Zo a0_)),(9,(ZH a3_)),(14,(Zc r1.x0))],H1011⟩ (Za.u 2 (Zk (ys:=[a1010]) (by rcases hfa1010 with ha1010e | ⟨_,_,ha1010e⟩<;>subst ha1010e<;>kernel_rfl) hln1520) Za.f) (by rcases hfa1010 with ha1010e | ⟨_,_,ha1010e⟩<;>subst ha1010e<;>kernel_rfl) ?_
  refine tq (it h (fun hc1521 h => ?_) (fun hc1521 h => ?_))
  ·refine sk (tq ?_)
   refine kq (sq ?_)
   refine bk (sq ?_)
   obtain ⟨e1522,he1522,h⟩:=bs h
   obtain ⟨id1523,ver1524,_,hid1523f,hid1523,hid1523a,hid1523v⟩:=HP.elem (k:=0) (a:=a1010) (sz:=4) (frz:=false) Zt hH rfl he1522
   obtain ⟨e1525,he1525,h⟩:=bs h
   obtain ⟨id1526,ver1527,_,hid1526f,hid1526,hid1526a,hid1526v⟩:=HP.elem (k:=0) (a:=a1010) (sz:=4) (frz:=false) Zt hH rfl he1525
   obtain ⟨e1528,he1528,h⟩:=bs h
   obtain ⟨id1529,ver1530,_,hid1529f,hid1529,hid1529a,hid1529v⟩:=HP.elem (k:=0) (a:=a1010) (sz:=4) (frz:=false) Zt hH rfl he1528
   obtain ⟨e1531,he1531,h⟩:=bs h
   obtain ⟨id1532,ver1533,_,hid1532f,hid1532,hid1532a,hid1532v⟩:=HP.elem (k:=0) (a:=a1010) (sz:=4) (frz:=false) Zt hH rfl he1531
   obtain ⟨r1534,hr1534,h⟩:=bs h
   refine rqS ⟨[(2,.p (.int .u8 a2_)),(4,Ze false a4_),(5,ZQ false a5_),(6,.loc 6 0),(9,.loc 9 0),(14,.loc 14 0),(15,Ze false r3),(18,a1010),(19,iv i1019),(20,bv r1534.1),(21,iv r1534.2),(33,.agg (Zn r1)),(34,iv 0)],[(6,(Zo a0_)),(9,(ZH a3_)),(14,(Zc r1.x0))],H1011⟩ (Za.u 3 (Zk (ys:=[a1010,iv i1019]) (by rcases hfa1010 with ha1010e | ⟨_,_,ha1010e⟩<;>subst ha1010e<;>kernel_rfl) (hid1523v .i64)) (Za.u 1 (ZI (Z2 (H:=H1011) (off:=0) (cs:=[.int .i64 e1522.x0]) (r:=iv e1522.x0) Zt he1522 hid1523)) (Za.u 2 (Zk (ys:=[a1010,iv i1019]) (by rcases hfa1010 with ha1010e | ⟨_,_,ha1010e⟩<;>subst ha1010e<;>kernel_rfl) (hid1526v .i64)) (Za.u 1 (ZI (Z2 (H:=H1011) (off:=1) (cs:=[.int .i64 e1525.x1]) (r:=iv e1525.x1) Zt he1525 hid1526)) (Za.u 2 (Zk (ys:=[a1010,iv i1019]) (by rcases hfa1010 with ha1010e | ⟨_,_,ha1010e⟩<;>subst ha1010e<;>kernel_rfl) (hid1529v .i64)) (Za.u 1 (ZI (Z2 (H:=H1011) (off:=2) (cs:=[.int .i64 e1528.x2]) (r:=iv e1528.x2) Zt he1528 hid1529)) (Za.u 2 (Zk (ys:=[a1010,iv i1019]) (by rcases hfa1010 with ha1010e | ⟨_,_,ha1010e⟩<;>subst ha1010e<;>kernel_rfl) (hid1532v .i64)) (Za.u 1 (ZI (Z2 (H:=H1011) (off:=3) (cs:=[.int .i64 e1531.x3]) (r:=iv e1531.x3) Zt he1531 hid1532)) (Za.v 0 (Zu (hc:=Zcx N r1.x0 e1522.x0 e1525.x1 e1528.x2 e1531.x3 r1534 hr1534)) Za.f))))))))) (by rcases hfa1010 with ha1010e | ⟨_,_,ha1010e⟩<;>subst ha1010e<;>kernel_rfl) ?_
   refine tq (sq ?_)
   obtain ⟨e1535,he1535,h⟩:=bs h
   obtain ⟨id1536,ver1537,_,hid1536f,hid1536,hid1536a,hid1536v⟩:=HP.elem (k:=0) (a:=a1010) (sz:=4) (frz:=false) Zt hH rfl he1535
   obtain ⟨e1538,he1538,h⟩:=bs h
   obtain ⟨id1539,ver1540,_,hid1539f,hid1539,hid1539a,hid1539v⟩:=HP.elem (k:=0) (a:=a1010) (sz:=4) (frz:=false) Zt hH rfl he1538
   obtain ⟨e1541,he1541,h⟩:=bs h
   obtain ⟨id1542,ver1543,_,hid1542f,hid1542,hid1542a,hid1542v⟩:=HP.elem (k:=0) (a:=a1010) (sz:=4) (frz:=false) Zt hH rfl he1541
   obtain ⟨e1544,he1544,h⟩:=bs h
   obtain ⟨id1545,ver1546,_,hid1545f,hid1545,hid1545a,hid1545v⟩:=HP.elem (k:=0) (a:=a1010) (sz:=4) (frz:=false) Zt hH rfl he1544
   obtain ⟨r1547,hr1547,h⟩:=bs h
   refine rqS ⟨[(2,.p (.int .u8 a2_)),(4,Ze false a4_),(5,ZQ false a5_),(6,.loc 6 0),(9,.loc 9 0),(14,.loc 14 0),(15,Ze false r3),(18,a1010),(19,iv i1019),(20,bv r1534.1),(21,iv r1534.2),(22,bv r1547.1),(23,iv r1547.2),(33,.agg (Zn r1)),(34,iv 0)],[(6,(Zo a0_)),(9,(ZH a3_)),(14,(Zc r1.x0))],H1011⟩ (Za.u 3 (Zk (ys:=[a1010,iv i1019]) (by rcases hfa1010 with ha1010e | ⟨_,_,ha1010e⟩<;>subst ha1010e<;>kernel_rfl) (hid1536v .i64)) (Za.u 1 (ZI (Z2 (H:=H1011) (off:=0) (cs:=[.int .i64 e1535.x0]) (r:=iv e1535.x0) Zt he1535 hid1536)) (Za.u 2 (Zk (ys:=[a1010,iv i1019]) (by rcases hfa1010 with ha1010e | ⟨_,_,ha1010e⟩<;>subst ha1010e<;>kernel_rfl) (hid1539v .i64)) (Za.u 1 (ZI (Z2 (H:=H1011) (off:=1) (cs:=[.int .i64 e1538.x1]) (r:=iv e1538.x1) Zt he1538 hid1539)) (Za.u 2 (Zk (ys:=[a1010,iv i1019]) (by rcases hfa1010 with ha1010e | ⟨_,_,ha1010e⟩<;>subst ha1010e<;>kernel_rfl) (hid1542v .i64)) (Za.u 1 (ZI (Z2 (H:=H1011) (off:=2) (cs:=[.int .i64 e1541.x2]) (r:=iv e1541.x2) Zt he1541 hid1542)) (Za.u 2 (Zk (ys:=[a1010,iv i1019]) (by rcases hfa1010 with ha1010e | ⟨_,_,ha1010e⟩<;>subst ha1010e<;>kernel_rfl) (hid1545v .i64)) (Za.u 1 (ZI (Z2 (H:=H1011) (off:=3) (cs:=[.int .i64 e1544.x3]) (r:=iv e1544.x3) Zt he1544 hid1545)) (Za.v 0 (Zu (hc:=Zc2 N r1.x0 e1535.x0 e1538.x1 e1541.x2 e1544.x3 r1547 hr1547)) Za.f))))))))) (by rcases hfa1010 with ha1010e | ⟨_,_,ha1010e⟩<;>subst ha1010e<;>kernel_rfl) ?_
   refine tq (sq ?_)
   refine rgX ⟨[(2,.p (.int .u8 a2_)),(4,Ze false a4_),(5,ZQ false a5_),(6,.loc 6 0),(9,.loc 9 0),(14,.loc 14 0),(15,Ze false r3),(18,a1010),(19,iv i1019),(33,.agg (Zn r1)),(34,iv 0),(137,bv ((r1534.1 != r1547.1)||(r1534.2 != r1547.2)))],[(6,(Zo a0_)),(9,(ZH a3_)),(14,(Zc r1.x0))],H1011⟩ ?_ ?_
   ·rcases Bool.eq_false_or_eq_true (r1534.1 != r1547.1) with hc1548 | hc1549
    ·exact (EP.u 2 (Zj (c:=(r1534.1 != r1547.1)) (h:=hc1548)) (EP.f (by simp only [hc1548];rcases hfa1010 with ha1010e | ⟨_,_,ha1010e⟩<;>subst ha1010e<;>kernel_rfl)))
    exact (EP.u 2 (Zj (c:=(r1534.1 != r1547.1)) (h:=hc1549)) (EP.f (by simp only [hc1549];rcases hfa1010 with ha1010e | ⟨_,_,ha1010e⟩<;>subst ha1010e<;>kernel_rfl)))
   refine tq (it h (fun hc1550 h => ?_) (fun hc1550 h => ?_))
   ·refine sq (rgS ⟨[(12,bv false)],[],H1011⟩ Za.f (by kernel_rfl) ?_)
    replace hH:HP H1011 []:=HP.pick hH [] rfl
    refine tq (rt ?_)
    refine br (tr ?_)
    obtain rfl:=Zb h
    exact ⟨_,rfl,rfl,Zy (by kernel_rfl)⟩
   refine sk (bn ?_)
   refine tq (kq ?_)
   refine rgS ⟨[(2,.p (.int .u8 a2_)),(4,Ze false a4_),(5,ZQ false a5_),(6,.loc 6 0),(9,.loc 9 0),(14,.loc 14 0),(15,Ze false r3),(18,a1010),(19,iv (w64 (i1019+1))),(33,.agg (Zn r1)),(34,iv 0)],[(6,(Zo a0_)),(9,(ZH a3_)),(14,(Zc r1.x0))],H1011⟩ Za.f (by rcases hfa1010 with ha1010e | ⟨_,_,ha1010e⟩<;>subst ha1010e<;>kernel_rfl) ?_
   obtain rfl:=Zb h
   exact ⟨_,rfl,(by show _=_;rcases hfa1010 with ha1010e | ⟨_,_,ha1010e⟩<;>subst ha1010e<;>kernel_rfl)⟩
  refine kq ?_
  replace hH:HP H1011 []:=HP.pick hH [] rfl
  refine xq (tx ?_)
  obtain rfl:=Zb h
  exact ⟨_,rfl,rfl,(by show _=_;kernel_rfl)⟩
 rintro e s hq
 rcases o1551 with p1552 | p4688
 ·dsimp only at h hq
  obtain ⟨rfl,hR⟩:=hq
  obtain rfl:=hR
  replace hH:HP H1011 []:=HP.pick hH [] rfl
  refine bx (tq ?_)
  refine sq (rg Za.f ?_)
  refine tq (bk ?_)
  refine Zez 18 ?_
  refine Zal ?_
  refine sq (rg Za.f ?_)
  refine tq (sq ?_)
  refine Zbb (by kernel_rfl) ?_
  refine sk (tq ?_)
  refine kq (sq ?_)
  refine bk (sq ?_)
  refine rg Za.f (tq ?_)
  refine sq ?_
  obtain ⟨r1553,hr1553,h⟩:=bs h
  refine rg (Za.v 2 (Zu (hc:=Zb4 N r1.x0 a4_ r1553 hr1553)) Za.f) (tq ?_)
  refine sq ?_
  obtain ⟨r1554,hr1554,h⟩:=bs h
  refine rg (Za.v 2 (Zu (hc:=Zce N r1.x0 a4_ r1554 hr1554)) Za.f) (tq ?_)
  refine sq (rgX ⟨[(2,.p (.int .u8 a2_)),(4,Ze false a4_),(5,ZQ false a5_),(6,.loc 6 0),(9,.loc 9 0),(14,.loc 14 0),(33,.agg (Zn r1)),(34,iv 0),(140,.agg [Ze false a4_,Ze false r3]),(141,iv 0),(163,bv ((r1553.1 != r1554.1)||(r1553.2 != r1554.2)))],[(6,(Zo a0_)),(9,(ZH a3_)),(14,(Zc r1.x0))],H1011⟩ ?_ ?_)
  ·rcases Bool.eq_false_or_eq_true (r1553.1 != r1554.1) with hc1555 | hc1556
   ·exact (EP.u 2 (Zj (c:=(r1553.1 != r1554.1)) (h:=hc1555)) (EP.f (by simp only [hc1555];kernel_rfl)))
   exact (EP.u 2 (Zj (c:=(r1553.1 != r1554.1)) (h:=hc1556)) (EP.f (by simp only [hc1556];kernel_rfl)))
  refine tq (it h (fun hc1557 h => ?_) (fun hc1557 h => ?_))
  ·refine sq (rg Za.f ?_)
   refine tq (rt ?_)
   refine br (tr ?_)
   refine tr (br ?_)
   refine br (tr ?_)
   refine tr (br ?_)
   refine tr ?_
   obtain rfl:=Zb h
   exact Zy (by kernel_rfl)
  refine sk (bn ?_)
  refine tq (kq ?_)
  refine rg Za.f (tq ?_)
  refine Zal ?_
  refine sq (rg Za.f ?_)
  refine tq (sq ?_)
  refine Zbb (by kernel_rfl) ?_
  refine sk (tq ?_)
  refine kq (sq ?_)
  refine bk (sq ?_)
  refine rg Za.f (tq ?_)
  refine sq ?_
  obtain ⟨r1558,hr1558,h⟩:=bs h
  refine rg (Za.v 2 (Zu (hc:=Zb4 N r1.x0 r3 r1558 hr1558)) Za.f) (tq ?_)
  refine sq ?_
  obtain ⟨r1559,hr1559,h⟩:=bs h
  refine rg (Za.v 2 (Zu (hc:=Zce N r1.x0 r3 r1559 hr1559)) Za.f) (tq ?_)
  refine sq (rgX ⟨[(2,.p (.int .u8 a2_)),(4,Ze false a4_),(5,ZQ false a5_),(6,.loc 6 0),(9,.loc 9 0),(14,.loc 14 0),(33,.agg (Zn r1)),(34,iv 0),(140,.agg [Ze false a4_,Ze false r3]),(141,iv 1),(163,bv ((r1558.1 != r1559.1)||(r1558.2 != r1559.2)))],[(6,(Zo a0_)),(9,(ZH a3_)),(14,(Zc r1.x0))],H1011⟩ ?_ ?_)
  ·rcases Bool.eq_false_or_eq_true (r1558.1 != r1559.1) with hc1560 | hc1561
   ·exact (EP.u 2 (Zj (c:=(r1558.1 != r1559.1)) (h:=hc1560)) (EP.f (by simp only [hc1560];kernel_rfl)))
   exact (EP.u 2 (Zj (c:=(r1558.1 != r1559.1)) (h:=hc1561)) (EP.f (by simp only [hc1561];kernel_rfl)))
  refine tq (it h (fun hc1562 h => ?_) (fun hc1562 h => ?_))
  ·refine sq (rg Za.f ?_)
   refine tq (rt ?_)
   refine br (tr ?_)
   refine tr (br ?_)
   refine br (tr ?_)
   refine tr (br ?_)
   refine tr ?_
   obtain rfl:=Zb h
   exact Zy (by kernel_rfl)
  refine sk (bn ?_)
  refine tq (kq ?_)
  refine rg Za.f (tq ?_)
  refine Zal ?_
  refine sq (rg Za.f ?_)
  refine tq (sq ?_)
  refine ZfL (by kernel_rfl) ?_
  refine kq (xq ?_)
  refine tx (tx ?_)
  refine bx (bn ?_)
  refine tq (kq ?_)
  refine rg Za.f (tq ?_)
  refine Zal ?_
  refine sq (rg Za.f ?_)
  refine tq (sq ?_)
  refine Zbb (by kernel_rfl) ?_
  refine sk (tq ?_)
  refine kq (sq ?_)
  refine bk (sq ?_)
  refine rg Za.f (tq ?_)
  refine sq ?_
  obtain ⟨r1563,hr1563,h⟩:=bs h
  obtain ⟨r1564,hr1564,h⟩:=bs h
  refine rg (Za.v 1 (Zu (hc:=Za6 N a0_ r1563 hr1563)) (Za.v 1 (Zu (hc:=ZeT N r1563 a5_ r1564 hr1564)) Za.f)) (tq ?_)
  refine sq (rg Za.f ?_)
  refine tq ?_
  obtain ⟨j2065,hj2065,h⟩:=bs h
  refine Zbz [2,4,5,6,9,14,15,16,17,33,34] (fun s=>s=⟨[(2,.p (.int .u8 a2_)),(4,Ze false a4_),(5,ZQ false a5_),(6,.loc 6 0),(9,.loc 9 0),(14,.loc 14 0),(15,Ze false r1564),(16,iv j2065.1),(17,iv j2065.2),(33,.agg (Zn r1)),(34,iv 1)],[(6,(Zo a0_)),(9,(ZH a3_)),(14,(Zc r1.x1))],H1011⟩) ?_ ?_
  ·clear h
   have h:=hj2065
   refine sq (rg (Za.u 1 (Zk (ys:=[Ze false r1564]) (h:=Zr eI64)) Za.f) ?_)
   refine tq (it h (fun hc2066 h => ?_) (fun hc2066 h => ?_))
   ·obtain ⟨m2067,hm2067,h⟩:=bs h
    obtain ⟨m2068,hm2068,h⟩:=bs h
    refine rq (Za.u 3 (Zk (ys:=[Ze false r1564]) (h:=Zr eI64)) (Za.u 0 (Zk (ys:=[iv (w64 (a2_)),iv ((List.length r1564:Nat):Int)]) (h:=Zaj hm2067)) (Za.u 4 (Zk (ys:=[Ze false r1564]) (h:=Zr eI64)) (Za.u 0 (Zk (ys:=[iv (w64 (Int.tdiv (w64 (a2_)) 5)),iv ((List.length r1564:Nat):Int)]) (h:=Zaj hm2068)) Za.f)))) ?_
    obtain rfl:=Zb h
    exact ⟨rfl,(by show _=_;kernel_rfl)⟩
   refine sk ?_
   obtain rfl:=Zb h
   exact ⟨rfl,(by show _=_;kernel_rfl)⟩
  clear hj2065
  rintro s hR
  obtain rfl:=hR
  refine sq ?_
  obtain ⟨a2069,H2070,ha2069,hH2070,hH⟩:=HP.lit 4 [a3_] Zt hH
  replace hH:HP H2070 [.arr a2069 4 false (List.map Zt [a3_])]:=hH
  have hfa2069:=ZB (HP.get hH 0 rfl)
  refine rgS ⟨[(2,.p (.int .u8 a2_)),(4,Ze false a4_),(5,ZQ false a5_),(6,.loc 6 0),(9,.loc 9 0),(14,.loc 14 0),(15,Ze false r1564),(16,iv j2065.1),(17,iv j2065.2),(18,a2069),(33,.agg (Zn r1)),(34,iv 1)],[(6,(Zo a0_)),(9,(ZH a3_)),(14,(Zc r1.x1))],H2070⟩ (Za.h 1 (Zj3 (H:=H1011) (ys:=[.agg (ZH a3_)]) (rows:=(List.map Zt [a3_])) (by kernel_rfl) (by kernel_rfl) (by kernel_rfl) ha2069 hH2070) Za.f) (by rcases hfa2069 with ha2069e | ⟨_,_,ha2069e⟩<;>subst ha2069e<;>kernel_rfl) ?_
  refine tq ?_
  obtain ⟨j2573,hj2573,h⟩:=bs h
  refine Zbz [2,4,5,6,9,14,15,18,33,34] (fun s=>∃ (a2571:AV) (H2572:List HO),s=⟨[(2,.p (.int .u8 a2_)),(4,Ze false a4_),(5,ZQ false a5_),(6,.loc 6 0),(9,.loc 9 0),(14,.loc 14 0),(15,Ze false r1564),(18,a2571),(33,.agg (Zn r1)),(34,iv 1)],[(6,(Zo a0_)),(9,(ZH a3_)),(14,(Zc r1.x1))],H2572⟩∧HP H2572 [.arr a2571 4 false (List.map Zt j2573)]) ?_ ?_
  ·clear h
   have h:=hj2573
   refine sq (rgS ⟨[(2,.p (.int .u8 a2_)),(4,Ze false a4_),(5,ZQ false a5_),(6,.loc 6 0),(9,.loc 9 0),(14,.loc 14 0),(15,Ze false r1564),(16,iv j2065.1),(17,iv j2065.2),(18,a2069),(33,.agg (Zn r1)),(34,iv 1),(59,bv (decide (((List.length r1564:Nat):Int) > 0)))],[(6,(Zo a0_)),(9,(ZH a3_)),(14,(Zc r1.x1))],H2070⟩ (Za.u 1 (Zk (ys:=[Ze false r1564]) (h:=Zr eI64)) Za.f) (by rcases hfa2069 with ha2069e | ⟨_,_,ha2069e⟩<;>subst ha2069e<;>kernel_rfl) ?_)
   refine tq (it h (fun hc2574 h => ?_) (fun hc2574 h => ?_))
   ·obtain ⟨e2575,he2575,h⟩:=bs h
    obtain ⟨e2576,he2576,h⟩:=bs h
    obtain ⟨l2579,hl2579,h⟩:=bs h
    obtain ⟨a2577,H2578,ha2577,hH⟩:=HP.app (k:=0) (a:=a2069) (sz:=4) (frz:=false) Zt hH rfl hl2579
    replace hH:HP H2578 [.arr a2577 4 false (List.map Zt l2579)]:=hH
    have hfa2577:=ZB (HP.get hH 0 rfl)
    refine rqS ⟨[(2,.p (.int .u8 a2_)),(4,Ze false a4_),(5,ZQ false a5_),(6,.loc 6 0),(9,.loc 9 0),(14,.loc 14 0),(15,Ze false r1564),(18,a2577),(33,.agg (Zn r1)),(34,iv 1)],[(6,(Zo a0_)),(9,(ZH a3_)),(14,(Zc r1.x1))],H2578⟩ (Za.u 4 (Zk (ys:=[Ze false r1564,iv j2065.1]) (h:=Zl eI64 he2575)) (Za.u 0 (ZI (Zz (sz:=1) (off:=0) (cs:=[.int .i64 e2575]) (r:=iv e2575) eI64 he2575)) (Za.u 3 (Zk (ys:=[Ze false r1564,iv j2065.2]) (h:=Zl eI64 he2576)) (Za.u 0 (ZI (Zz (sz:=1) (off:=0) (cs:=[.int .i64 e2576]) (r:=iv e2576) eI64 he2576)) (Za.h 2 (Zeb (H:=H2070) (a:=a2069) (b:=Zfm true [(ZaE.mk j2065.1 e2575 j2065.2 e2576)]) (by rcases hfa2069 with ha2069e | ⟨_,_,ha2069e⟩<;>subst ha2069e<;>kernel_rfl) (by rcases hfa2069 with ha2069e | ⟨_,_,ha2069e⟩<;>subst ha2069e<;>kernel_rfl) (by rcases hfa2069 with ha2069e | ⟨_,_,ha2069e⟩<;>subst ha2069e<;>kernel_rfl) (by rcases hfa2069 with ha2069e | ⟨_,_,ha2069e⟩<;>subst ha2069e<;>kernel_rfl) ha2577) Za.f))))) (by rcases hfa2069 with ha2069e | ⟨_,_,ha2069e⟩<;>rcases hfa2577 with ha2577e | ⟨_,_,ha2577e⟩<;>subst ha2069e ha2577e<;>kernel_rfl) ?_
    obtain rfl:=Zb h
    exact ⟨rfl,⟨a2577,H2578,(by show _=_;rcases hfa2577 with ha2577e | ⟨_,_,ha2577e⟩<;>subst ha2577e<;>kernel_rfl),(HP.pick hH [0] rfl)⟩⟩
   refine sk ?_
   obtain rfl:=Zb h
   exact ⟨rfl,⟨a2069,H2070,(by show _=_;rcases hfa2069 with ha2069e | ⟨_,_,ha2069e⟩<;>subst ha2069e<;>kernel_rfl),(HP.pick hH [0] rfl)⟩⟩
  clear hj2573
  rintro s hR
  obtain ⟨a2571,H2572,rfl,hH⟩:=hR
  replace hH:HP H2572 [.arr a2571 4 false (List.map Zt j2573)]:=hH
  have hfa2571:=ZB (HP.get hH 0 rfl)
  refine sq (sq ?_)
  refine rgS ⟨[(2,.p (.int .u8 a2_)),(4,Ze false a4_),(5,ZQ false a5_),(6,.loc 6 0),(9,.loc 9 0),(14,.loc 14 0),(15,Ze false r1564),(18,a2571),(19,iv 0),(33,.agg (Zn r1)),(34,iv 1)],[(6,(Zo a0_)),(9,(ZH a3_)),(14,(Zc r1.x1))],H2572⟩ Za.f (by rcases hfa2571 with ha2571e | ⟨_,_,ha2571e⟩<;>subst ha2571e<;>kernel_rfl) ?_
  refine tq (bk ?_)
  obtain ⟨o3112,ho3112,h⟩:=bs h
  refine ZW ((ZN (fun (x:Int) s=>s=⟨[(2,.p (.int .u8 a2_)),(4,Ze false a4_),(5,ZQ false a5_),(6,.loc 6 0),(9,.loc 9 0),(14,.loc 14 0),(15,Ze false r1564),(18,a2571),(19,iv x),(33,.agg (Zn r1)),(34,iv 1)],[(6,(Zo a0_)),(9,(ZH a3_)),(14,(Zc r1.x1))],H2572⟩) (fun x:Int=>ZaZ N r1 j2573 x) (fun (p:(Unit) ⊕ (Bool)) e s=>match p with | (.inl p)=>e = .exit 2∧(s=⟨[(2,.p (.int .u8 a2_)),(4,Ze false a4_),(5,ZQ false a5_),(6,.loc 6 0),(9,.loc 9 0),(14,.loc 14 0),(15,Ze false r1564),(33,.agg (Zn r1)),(34,iv 1)],[(6,(Zo a0_)),(9,(ZH a3_)),(14,(Zc r1.x1))],H2572⟩) | (.inr p)=>e = .ret∧∃ xs,resL s i3.res=some xs∧Zat xs=bv p) ?_ N _ o3112 _ ho3112 (by show _=_;rcases hfa2571 with ha2571e | ⟨_,_,ha2571e⟩<;>subst ha2571e<;>kernel_rfl)).mono ?_)
  ·clear h ho3112
   rintro i2580 o s h hR
   obtain rfl:=hR
   replace h:ZaZ N r1 j2573 i2580=some o:=h
   unfold ZaZ at h
   refine sq (sq ?_)
   have hln3081:=HP.len (k:=0) (a:=a2571) (sz:=4) (frz:=false) (l:=j2573) Zt hH rfl
   refine rgS ⟨[(2,.p (.int .u8 a2_)),(4,Ze false a4_),(5,ZQ false a5_),(6,.loc 6 0),(9,.loc 9 0),(14,.loc 14 0),(15,Ze false r1564),(18,a2571),(19,iv i2580),(33,.agg (Zn r1)),(34,iv 1),(77,bv (decide (i2580<((List.length j2573:Nat):Int))))],[(6,(Zo a0_)),(9,(ZH a3_)),(14,(Zc r1.x1))],H2572⟩ (Za.u 2 (Zk (ys:=[a2571]) (by rcases hfa2571 with ha2571e | ⟨_,_,ha2571e⟩<;>subst ha2571e<;>kernel_rfl) hln3081) Za.f) (by rcases hfa2571 with ha2571e | ⟨_,_,ha2571e⟩<;>subst ha2571e<;>kernel_rfl) ?_
   refine tq (it h (fun hc3082 h => ?_) (fun hc3082 h => ?_))
   ·refine sk (tq ?_)
    refine kq (sq ?_)
    refine bk (sq ?_)
    obtain ⟨e3083,he3083,h⟩:=bs h
    obtain ⟨id3084,ver3085,_,hid3084f,hid3084,hid3084a,hid3084v⟩:=HP.elem (k:=0) (a:=a2571) (sz:=4) (frz:=false) Zt hH rfl he3083
    obtain ⟨e3086,he3086,h⟩:=bs h
    obtain ⟨id3087,ver3088,_,hid3087f,hid3087,hid3087a,hid3087v⟩:=HP.elem (k:=0) (a:=a2571) (sz:=4) (frz:=false) Zt hH rfl he3086
    obtain ⟨e3089,he3089,h⟩:=bs h
    obtain ⟨id3090,ver3091,_,hid3090f,hid3090,hid3090a,hid3090v⟩:=HP.elem (k:=0) (a:=a2571) (sz:=4) (frz:=false) Zt hH rfl he3089
    obtain ⟨e3092,he3092,h⟩:=bs h
    obtain ⟨id3093,ver3094,_,hid3093f,hid3093,hid3093a,hid3093v⟩:=HP.elem (k:=0) (a:=a2571) (sz:=4) (frz:=false) Zt hH rfl he3092
    obtain ⟨r3095,hr3095,h⟩:=bs h
    refine rqS ⟨[(2,.p (.int .u8 a2_)),(4,Ze false a4_),(5,ZQ false a5_),(6,.loc 6 0),(9,.loc 9 0),(14,.loc 14 0),(15,Ze false r1564),(18,a2571),(19,iv i2580),(20,bv r3095.1),(21,iv r3095.2),(33,.agg (Zn r1)),(34,iv 1)],[(6,(Zo a0_)),(9,(ZH a3_)),(14,(Zc r1.x1))],H2572⟩ (Za.u 3 (Zk (ys:=[a2571,iv i2580]) (by rcases hfa2571 with ha2571e | ⟨_,_,ha2571e⟩<;>subst ha2571e<;>kernel_rfl) (hid3084v .i64)) (Za.u 1 (ZI (Z2 (H:=H2572) (off:=0) (cs:=[.int .i64 e3083.x0]) (r:=iv e3083.x0) Zt he3083 hid3084)) (Za.u 2 (Zk (ys:=[a2571,iv i2580]) (by rcases hfa2571 with ha2571e | ⟨_,_,ha2571e⟩<;>subst ha2571e<;>kernel_rfl) (hid3087v .i64)) (Za.u 1 (ZI (Z2 (H:=H2572) (off:=1) (cs:=[.int .i64 e3086.x1]) (r:=iv e3086.x1) Zt he3086 hid3087)) (Za.u 2 (Zk (ys:=[a2571,iv i2580]) (by rcases hfa2571 with ha2571e | ⟨_,_,ha2571e⟩<;>subst ha2571e<;>kernel_rfl) (hid3090v .i64)) (Za.u 1 (ZI (Z2 (H:=H2572) (off:=2) (cs:=[.int .i64 e3089.x2]) (r:=iv e3089.x2) Zt he3089 hid3090)) (Za.u 2 (Zk (ys:=[a2571,iv i2580]) (by rcases hfa2571 with ha2571e | ⟨_,_,ha2571e⟩<;>subst ha2571e<;>kernel_rfl) (hid3093v .i64)) (Za.u 1 (ZI (Z2 (H:=H2572) (off:=3) (cs:=[.int .i64 e3092.x3]) (r:=iv e3092.x3) Zt he3092 hid3093)) (Za.v 0 (Zu (hc:=Zcx N r1.x1 e3083.x0 e3086.x1 e3089.x2 e3092.x3 r3095 hr3095)) Za.f))))))))) (by rcases hfa2571 with ha2571e | ⟨_,_,ha2571e⟩<;>subst ha2571e<;>kernel_rfl) ?_
    refine tq (sq ?_)
    obtain ⟨e3096,he3096,h⟩:=bs h
    obtain ⟨id3097,ver3098,_,hid3097f,hid3097,hid3097a,hid3097v⟩:=HP.elem (k:=0) (a:=a2571) (sz:=4) (frz:=false) Zt hH rfl he3096
    obtain ⟨e3099,he3099,h⟩:=bs h
    obtain ⟨id3100,ver3101,_,hid3100f,hid3100,hid3100a,hid3100v⟩:=HP.elem (k:=0) (a:=a2571) (sz:=4) (frz:=false) Zt hH rfl he3099
    obtain ⟨e3102,he3102,h⟩:=bs h
    obtain ⟨id3103,ver3104,_,hid3103f,hid3103,hid3103a,hid3103v⟩:=HP.elem (k:=0) (a:=a2571) (sz:=4) (frz:=false) Zt hH rfl he3102
    obtain ⟨e3105,he3105,h⟩:=bs h
    obtain ⟨id3106,ver3107,_,hid3106f,hid3106,hid3106a,hid3106v⟩:=HP.elem (k:=0) (a:=a2571) (sz:=4) (frz:=false) Zt hH rfl he3105
    obtain ⟨r3108,hr3108,h⟩:=bs h
    refine rqS ⟨[(2,.p (.int .u8 a2_)),(4,Ze false a4_),(5,ZQ false a5_),(6,.loc 6 0),(9,.loc 9 0),(14,.loc 14 0),(15,Ze false r1564),(18,a2571),(19,iv i2580),(20,bv r3095.1),(21,iv r3095.2),(22,bv r3108.1),(23,iv r3108.2),(33,.agg (Zn r1)),(34,iv 1)],[(6,(Zo a0_)),(9,(ZH a3_)),(14,(Zc r1.x1))],H2572⟩ (Za.u 3 (Zk (ys:=[a2571,iv i2580]) (by rcases hfa2571 with ha2571e | ⟨_,_,ha2571e⟩<;>subst ha2571e<;>kernel_rfl) (hid3097v .i64)) (Za.u 1 (ZI (Z2 (H:=H2572) (off:=0) (cs:=[.int .i64 e3096.x0]) (r:=iv e3096.x0) Zt he3096 hid3097)) (Za.u 2 (Zk (ys:=[a2571,iv i2580]) (by rcases hfa2571 with ha2571e | ⟨_,_,ha2571e⟩<;>subst ha2571e<;>kernel_rfl) (hid3100v .i64)) (Za.u 1 (ZI (Z2 (H:=H2572) (off:=1) (cs:=[.int .i64 e3099.x1]) (r:=iv e3099.x1) Zt he3099 hid3100)) (Za.u 2 (Zk (ys:=[a2571,iv i2580]) (by rcases hfa2571 with ha2571e | ⟨_,_,ha2571e⟩<;>subst ha2571e<;>kernel_rfl) (hid3103v .i64)) (Za.u 1 (ZI (Z2 (H:=H2572) (off:=2) (cs:=[.int .i64 e3102.x2]) (r:=iv e3102.x2) Zt he3102 hid3103)) (Za.u 2 (Zk (ys:=[a2571,iv i2580]) (by rcases hfa2571 with ha2571e | ⟨_,_,ha2571e⟩<;>subst ha2571e<;>kernel_rfl) (hid3106v .i64)) (Za.u 1 (ZI (Z2 (H:=H2572) (off:=3) (cs:=[.int .i64 e3105.x3]) (r:=iv e3105.x3) Zt he3105 hid3106)) (Za.v 0 (Zu (hc:=Zc2 N r1.x1 e3096.x0 e3099.x1 e3102.x2 e3105.x3 r3108 hr3108)) Za.f))))))))) (by rcases hfa2571 with ha2571e | ⟨_,_,ha2571e⟩<;>subst ha2571e<;>kernel_rfl) ?_
    refine tq (sq ?_)
    refine rgX ⟨[(2,.p (.int .u8 a2_)),(4,Ze false a4_),(5,ZQ false a5_),(6,.loc 6 0),(9,.loc 9 0),(14,.loc 14 0),(15,Ze false r1564),(18,a2571),(19,iv i2580),(33,.agg (Zn r1)),(34,iv 1),(137,bv ((r3095.1 != r3108.1)||(r3095.2 != r3108.2)))],[(6,(Zo a0_)),(9,(ZH a3_)),(14,(Zc r1.x1))],H2572⟩ ?_ ?_
    ·rcases Bool.eq_false_or_eq_true (r3095.1 != r3108.1) with hc3109 | hc3110
     ·exact (EP.u 2 (Zj (c:=(r3095.1 != r3108.1)) (h:=hc3109)) (EP.f (by simp only [hc3109];rcases hfa2571 with ha2571e | ⟨_,_,ha2571e⟩<;>subst ha2571e<;>kernel_rfl)))
     exact (EP.u 2 (Zj (c:=(r3095.1 != r3108.1)) (h:=hc3110)) (EP.f (by simp only [hc3110];rcases hfa2571 with ha2571e | ⟨_,_,ha2571e⟩<;>subst ha2571e<;>kernel_rfl)))
    refine tq (it h (fun hc3111 h => ?_) (fun hc3111 h => ?_))
    ·refine sq (rgS ⟨[(12,bv false)],[],H2572⟩ Za.f (by kernel_rfl) ?_)
     replace hH:HP H2572 []:=HP.pick hH [] rfl
     refine tq (rt ?_)
     refine br (tr ?_)
     obtain rfl:=Zb h
     exact ⟨_,rfl,rfl,Zy (by kernel_rfl)⟩
    refine sk (bn ?_)
    refine tq (kq ?_)
    refine rgS ⟨[(2,.p (.int .u8 a2_)),(4,Ze false a4_),(5,ZQ false a5_),(6,.loc 6 0),(9,.loc 9 0),(14,.loc 14 0),(15,Ze false r1564),(18,a2571),(19,iv (w64 (i2580+1))),(33,.agg (Zn r1)),(34,iv 1)],[(6,(Zo a0_)),(9,(ZH a3_)),(14,(Zc r1.x1))],H2572⟩ Za.f (by rcases hfa2571 with ha2571e | ⟨_,_,ha2571e⟩<;>subst ha2571e<;>kernel_rfl) ?_
    obtain rfl:=Zb h
    exact ⟨_,rfl,(by show _=_;rcases hfa2571 with ha2571e | ⟨_,_,ha2571e⟩<;>subst ha2571e<;>kernel_rfl)⟩
   refine kq ?_
   replace hH:HP H2572 []:=HP.pick hH [] rfl
   refine xq (tx ?_)
   obtain rfl:=Zb h
   exact ⟨_,rfl,rfl,(by show _=_;kernel_rfl)⟩
  rintro e s hq
  rcases o3112 with p3113 | p4687
  ·dsimp only at h hq
   obtain ⟨rfl,hR⟩:=hq
   obtain rfl:=hR
   replace hH:HP H2572 []:=HP.pick hH [] rfl
   refine bx (tq ?_)
   refine sq (rg Za.f ?_)
   refine tq (bk ?_)
   refine Zez 18 ?_
   refine Zal ?_
   refine sq (rg Za.f ?_)
   refine tq (sq ?_)
   refine Zbb (by kernel_rfl) ?_
   refine sk (tq ?_)
   refine kq (sq ?_)
   refine bk (sq ?_)
   refine rg Za.f (tq ?_)
   refine sq ?_
   obtain ⟨r3114,hr3114,h⟩:=bs h
   refine rg (Za.v 2 (Zu (hc:=Zb4 N r1.x1 a4_ r3114 hr3114)) Za.f) (tq ?_)
   refine sq ?_
   obtain ⟨r3115,hr3115,h⟩:=bs h
   refine rg (Za.v 2 (Zu (hc:=Zce N r1.x1 a4_ r3115 hr3115)) Za.f) (tq ?_)
   refine sq (rgX ⟨[(2,.p (.int .u8 a2_)),(4,Ze false a4_),(5,ZQ false a5_),(6,.loc 6 0),(9,.loc 9 0),(14,.loc 14 0),(33,.agg (Zn r1)),(34,iv 1),(140,.agg [Ze false a4_,Ze false r1564]),(141,iv 0),(163,bv ((r3114.1 != r3115.1)||(r3114.2 != r3115.2)))],[(6,(Zo a0_)),(9,(ZH a3_)),(14,(Zc r1.x1))],H2572⟩ ?_ ?_)
   ·rcases Bool.eq_false_or_eq_true (r3114.1 != r3115.1) with hc3116 | hc3117
    ·exact (EP.u 2 (Zj (c:=(r3114.1 != r3115.1)) (h:=hc3116)) (EP.f (by simp only [hc3116];kernel_rfl)))
    exact (EP.u 2 (Zj (c:=(r3114.1 != r3115.1)) (h:=hc3117)) (EP.f (by simp only [hc3117];kernel_rfl)))
   refine tq (it h (fun hc3118 h => ?_) (fun hc3118 h => ?_))
   ·refine sq (rg Za.f ?_)
    refine tq (rt ?_)
    refine br (tr ?_)
    refine tr (br ?_)
    refine br (tr ?_)
    refine tr (br ?_)
    refine tr ?_
    obtain rfl:=Zb h
    exact Zy (by kernel_rfl)
   refine sk (bn ?_)
   refine tq (kq ?_)
   refine rg Za.f (tq ?_)
   refine Zal ?_
   refine sq (rg Za.f ?_)
   refine tq (sq ?_)
   refine Zbb (by kernel_rfl) ?_
   refine sk (tq ?_)
   refine kq (sq ?_)
   refine bk (sq ?_)
   refine rg Za.f (tq ?_)
   refine sq ?_
   obtain ⟨r3119,hr3119,h⟩:=bs h
   refine rg (Za.v 2 (Zu (hc:=Zb4 N r1.x1 r1564 r3119 hr3119)) Za.f) (tq ?_)
   refine sq ?_
   obtain ⟨r3120,hr3120,h⟩:=bs h
   refine rg (Za.v 2 (Zu (hc:=Zce N r1.x1 r1564 r3120 hr3120)) Za.f) (tq ?_)
   refine sq (rgX ⟨[(2,.p (.int .u8 a2_)),(4,Ze false a4_),(5,ZQ false a5_),(6,.loc 6 0),(9,.loc 9 0),(14,.loc 14 0),(33,.agg (Zn r1)),(34,iv 1),(140,.agg [Ze false a4_,Ze false r1564]),(141,iv 1),(163,bv ((r3119.1 != r3120.1)||(r3119.2 != r3120.2)))],[(6,(Zo a0_)),(9,(ZH a3_)),(14,(Zc r1.x1))],H2572⟩ ?_ ?_)
   ·rcases Bool.eq_false_or_eq_true (r3119.1 != r3120.1) with hc3121 | hc3122
    ·exact (EP.u 2 (Zj (c:=(r3119.1 != r3120.1)) (h:=hc3121)) (EP.f (by simp only [hc3121];kernel_rfl)))
    exact (EP.u 2 (Zj (c:=(r3119.1 != r3120.1)) (h:=hc3122)) (EP.f (by simp only [hc3122];kernel_rfl)))
   refine tq (it h (fun hc3123 h => ?_) (fun hc3123 h => ?_))
   ·refine sq (rg Za.f ?_)
    refine tq (rt ?_)
    refine br (tr ?_)
    refine tr (br ?_)
    refine br (tr ?_)
    refine tr (br ?_)
    refine tr ?_
    obtain rfl:=Zb h
    exact Zy (by kernel_rfl)
   refine sk (bn ?_)
   refine tq (kq ?_)
   refine rg Za.f (tq ?_)
   refine Zal ?_
   refine sq (rg Za.f ?_)
   refine tq (sq ?_)
   refine ZfL (by kernel_rfl) ?_
   refine kq (xq ?_)
   refine tx (tx ?_)
   refine bx (bn ?_)
   refine tq (kq ?_)
   refine rg Za.f (tq ?_)
   refine Zal ?_
   refine sq (rg Za.f ?_)
   refine tq (sq ?_)
   refine Zbb (by kernel_rfl) ?_
   refine sk (tq ?_)
   refine kq (sq ?_)
   refine bk (sq ?_)
   refine rg Za.f (tq ?_)
   refine sq ?_
   obtain ⟨r3124,hr3124,h⟩:=bs h
   obtain ⟨r3125,hr3125,h⟩:=bs h
   refine rg (Za.v 1 (Zu (hc:=Za6 N a0_ r3124 hr3124)) (Za.v 1 (Zu (hc:=ZeT N r3124 a5_ r3125 hr3125)) Za.f)) (tq ?_)
   refine sq (rg Za.f ?_)
   refine tq ?_
   obtain ⟨j3626,hj3626,h⟩:=bs h
   refine Zbz [2,4,5,6,9,14,15,16,17,33,34] (fun s=>s=⟨[(2,.p (.int .u8 a2_)),(4,Ze false a4_),(5,ZQ false a5_),(6,.loc 6 0),(9,.loc 9 0),(14,.loc 14 0),(15,Ze false r3125),(16,iv j3626.1),(17,iv j3626.2),(33,.agg (Zn r1)),(34,iv 2)],[(6,(Zo a0_)),(9,(ZH a3_)),(14,(Zc r1.x2))],H2572⟩) ?_ ?_
   ·clear h
    have h:=hj3626
    refine sq (rg (Za.u 1 (Zk (ys:=[Ze false r3125]) (h:=Zr eI64)) Za.f) ?_)
    refine tq (it h (fun hc3627 h => ?_) (fun hc3627 h => ?_))
    ·obtain ⟨m3628,hm3628,h⟩:=bs h
     obtain ⟨m3629,hm3629,h⟩:=bs h
     refine rq (Za.u 3 (Zk (ys:=[Ze false r3125]) (h:=Zr eI64)) (Za.u 0 (Zk (ys:=[iv (w64 (a2_)),iv ((List.length r3125:Nat):Int)]) (h:=Zaj hm3628)) (Za.u 4 (Zk (ys:=[Ze false r3125]) (h:=Zr eI64)) (Za.u 0 (Zk (ys:=[iv (w64 (Int.tdiv (w64 (a2_)) 5)),iv ((List.length r3125:Nat):Int)]) (h:=Zaj hm3629)) Za.f)))) ?_
     obtain rfl:=Zb h
     exact ⟨rfl,(by show _=_;kernel_rfl)⟩
    refine sk ?_
    obtain rfl:=Zb h
    exact ⟨rfl,(by show _=_;kernel_rfl)⟩
   clear hj3626
   rintro s hR
   obtain rfl:=hR
   refine sq ?_
   obtain ⟨a3630,H3631,ha3630,hH3631,hH⟩:=HP.lit 4 [a3_] Zt hH
   replace hH:HP H3631 [.arr a3630 4 false (List.map Zt [a3_])]:=hH
   have hfa3630:=ZB (HP.get hH 0 rfl)
   refine rgS ⟨[(2,.p (.int .u8 a2_)),(4,Ze false a4_),(5,ZQ false a5_),(6,.loc 6 0),(9,.loc 9 0),(14,.loc 14 0),(15,Ze false r3125),(16,iv j3626.1),(17,iv j3626.2),(18,a3630),(33,.agg (Zn r1)),(34,iv 2)],[(6,(Zo a0_)),(9,(ZH a3_)),(14,(Zc r1.x2))],H3631⟩ (Za.h 1 (Zj3 (H:=H2572) (ys:=[.agg (ZH a3_)]) (rows:=(List.map Zt [a3_])) (by kernel_rfl) (by kernel_rfl) (by kernel_rfl) ha3630 hH3631) Za.f) (by rcases hfa3630 with ha3630e | ⟨_,_,ha3630e⟩<;>subst ha3630e<;>kernel_rfl) ?_
   refine tq ?_
   obtain ⟨j4134,hj4134,h⟩:=bs h
   refine Zbz [2,4,5,6,9,14,15,18,33,34] (fun s=>∃ (a4132:AV) (H4133:List HO),s=⟨[(2,.p (.int .u8 a2_)),(4,Ze false a4_),(5,ZQ false a5_),(6,.loc 6 0),(9,.loc 9 0),(14,.loc 14 0),(15,Ze false r3125),(18,a4132),(33,.agg (Zn r1)),(34,iv 2)],[(6,(Zo a0_)),(9,(ZH a3_)),(14,(Zc r1.x2))],H4133⟩∧HP H4133 [.arr a4132 4 false (List.map Zt j4134)]) ?_ ?_
   ·clear h
    have h:=hj4134
    refine sq (rgS ⟨[(2,.p (.int .u8 a2_)),(4,Ze false a4_),(5,ZQ false a5_),(6,.loc 6 0),(9,.loc 9 0),(14,.loc 14 0),(15,Ze false r3125),(16,iv j3626.1),(17,iv j3626.2),(18,a3630),(33,.agg (Zn r1)),(34,iv 2),(59,bv (decide (((List.length r3125:Nat):Int) > 0)))],[(6,(Zo a0_)),(9,(ZH a3_)),(14,(Zc r1.x2))],H3631⟩ (Za.u 1 (Zk (ys:=[Ze false r3125]) (h:=Zr eI64)) Za.f) (by rcases hfa3630 with ha3630e | ⟨_,_,ha3630e⟩<;>subst ha3630e<;>kernel_rfl) ?_)
    refine tq (it h (fun hc4135 h => ?_) (fun hc4135 h => ?_))
    ·obtain ⟨e4136,he4136,h⟩:=bs h
     obtain ⟨e4137,he4137,h⟩:=bs h
     obtain ⟨l4140,hl4140,h⟩:=bs h
     obtain ⟨a4138,H4139,ha4138,hH⟩:=HP.app (k:=0) (a:=a3630) (sz:=4) (frz:=false) Zt hH rfl hl4140
     replace hH:HP H4139 [.arr a4138 4 false (List.map Zt l4140)]:=hH
     have hfa4138:=ZB (HP.get hH 0 rfl)
     refine rqS ⟨[(2,.p (.int .u8 a2_)),(4,Ze false a4_),(5,ZQ false a5_),(6,.loc 6 0),(9,.loc 9 0),(14,.loc 14 0),(15,Ze false r3125),(18,a4138),(33,.agg (Zn r1)),(34,iv 2)],[(6,(Zo a0_)),(9,(ZH a3_)),(14,(Zc r1.x2))],H4139⟩ (Za.u 4 (Zk (ys:=[Ze false r3125,iv j3626.1]) (h:=Zl eI64 he4136)) (Za.u 0 (ZI (Zz (sz:=1) (off:=0) (cs:=[.int .i64 e4136]) (r:=iv e4136) eI64 he4136)) (Za.u 3 (Zk (ys:=[Ze false r3125,iv j3626.2]) (h:=Zl eI64 he4137)) (Za.u 0 (ZI (Zz (sz:=1) (off:=0) (cs:=[.int .i64 e4137]) (r:=iv e4137) eI64 he4137)) (Za.h 2 (Zeb (H:=H3631) (a:=a3630) (b:=Zfm true [(ZaE.mk j3626.1 e4136 j3626.2 e4137)]) (by rcases hfa3630 with ha3630e | ⟨_,_,ha3630e⟩<;>subst ha3630e<;>kernel_rfl) (by rcases hfa3630 with ha3630e | ⟨_,_,ha3630e⟩<;>subst ha3630e<;>kernel_rfl) (by rcases hfa3630 with ha3630e | ⟨_,_,ha3630e⟩<;>subst ha3630e<;>kernel_rfl) (by rcases hfa3630 with ha3630e | ⟨_,_,ha3630e⟩<;>subst ha3630e<;>kernel_rfl) ha4138) Za.f))))) (by rcases hfa3630 with ha3630e | ⟨_,_,ha3630e⟩<;>rcases hfa4138 with ha4138e | ⟨_,_,ha4138e⟩<;>subst ha3630e ha4138e<;>kernel_rfl) ?_
     obtain rfl:=Zb h
     exact ⟨rfl,⟨a4138,H4139,(by show _=_;rcases hfa4138 with ha4138e | ⟨_,_,ha4138e⟩<;>subst ha4138e<;>kernel_rfl),(HP.pick hH [0] rfl)⟩⟩
    refine sk ?_
    obtain rfl:=Zb h
    exact ⟨rfl,⟨a3630,H3631,(by show _=_;rcases hfa3630 with ha3630e | ⟨_,_,ha3630e⟩<;>subst ha3630e<;>kernel_rfl),(HP.pick hH [0] rfl)⟩⟩
   clear hj4134
   rintro s hR
   obtain ⟨a4132,H4133,rfl,hH⟩:=hR
   replace hH:HP H4133 [.arr a4132 4 false (List.map Zt j4134)]:=hH
   have hfa4132:=ZB (HP.get hH 0 rfl)
   refine sq (sq ?_)
   refine rgS ⟨[(2,.p (.int .u8 a2_)),(4,Ze false a4_),(5,ZQ false a5_),(6,.loc 6 0),(9,.loc 9 0),(14,.loc 14 0),(15,Ze false r3125),(18,a4132),(19,iv 0),(33,.agg (Zn r1)),(34,iv 2)],[(6,(Zo a0_)),(9,(ZH a3_)),(14,(Zc r1.x2))],H4133⟩ Za.f (by rcases hfa4132 with ha4132e | ⟨_,_,ha4132e⟩<;>subst ha4132e<;>kernel_rfl) ?_
   refine tq (bk ?_)
   obtain ⟨o4673,ho4673,h⟩:=bs h
   refine ZW ((ZN (fun (x:Int) s=>s=⟨[(2,.p (.int .u8 a2_)),(4,Ze false a4_),(5,ZQ false a5_),(6,.loc 6 0),(9,.loc 9 0),(14,.loc 14 0),(15,Ze false r3125),(18,a4132),(19,iv x),(33,.agg (Zn r1)),(34,iv 2)],[(6,(Zo a0_)),(9,(ZH a3_)),(14,(Zc r1.x2))],H4133⟩) (fun x:Int=>ZaY N r1 j4134 x) (fun (p:(Unit) ⊕ (Bool)) e s=>match p with | (.inl p)=>e = .exit 2∧(s=⟨[(2,.p (.int .u8 a2_)),(4,Ze false a4_),(5,ZQ false a5_),(6,.loc 6 0),(9,.loc 9 0),(14,.loc 14 0),(15,Ze false r3125),(33,.agg (Zn r1)),(34,iv 2)],[(6,(Zo a0_)),(9,(ZH a3_)),(14,(Zc r1.x2))],H4133⟩) | (.inr p)=>e = .ret∧∃ xs,resL s i3.res=some xs∧Zat xs=bv p) ?_ N _ o4673 _ ho4673 (by show _=_;rcases hfa4132 with ha4132e | ⟨_,_,ha4132e⟩<;>subst ha4132e<;>kernel_rfl)).mono ?_)
   ·clear h ho4673
    rintro i4141 o s h hR
    obtain rfl:=hR
    replace h:ZaY N r1 j4134 i4141=some o:=h
    unfold ZaY at h
    refine sq (sq ?_)
    have hln4642:=HP.len (k:=0) (a:=a4132) (sz:=4) (frz:=false) (l:=j4134) Zt hH rfl
    refine rgS ⟨[(2,.p (.int .u8 a2_)),(4,Ze false a4_),(5,ZQ false a5_),(6,.loc 6 0),(9,.loc 9 0),(14,.loc 14 0),(15,Ze false r3125),(18,a4132),(19,iv i4141),(33,.agg (Zn r1)),(34,iv 2),(77,bv (decide (i4141<((List.length j4134:Nat):Int))))],[(6,(Zo a0_)),(9,(ZH a3_)),(14,(Zc r1.x2))],H4133⟩ (Za.u 2 (Zk (ys:=[a4132]) (by rcases hfa4132 with ha4132e | ⟨_,_,ha4132e⟩<;>subst ha4132e<;>kernel_rfl) hln4642) Za.f) (by rcases hfa4132 with ha4132e | ⟨_,_,ha4132e⟩<;>subst ha4132e<;>kernel_rfl) ?_
    refine tq (it h (fun hc4643 h => ?_) (fun hc4643 h => ?_))
    ·refine sk (tq ?_)
     refine kq (sq ?_)
     refine bk (sq ?_)
     obtain ⟨e4644,he4644,h⟩:=bs h
     obtain ⟨id4645,ver4646,_,hid4645f,hid4645,hid4645a,hid4645v⟩:=HP.elem (k:=0) (a:=a4132) (sz:=4) (frz:=false) Zt hH rfl he4644
     obtain ⟨e4647,he4647,h⟩:=bs h
     obtain ⟨id4648,ver4649,_,hid4648f,hid4648,hid4648a,hid4648v⟩:=HP.elem (k:=0) (a:=a4132) (sz:=4) (frz:=false) Zt hH rfl he4647
     obtain ⟨e4650,he4650,h⟩:=bs h
     obtain ⟨id4651,ver4652,_,hid4651f,hid4651,hid4651a,hid4651v⟩:=HP.elem (k:=0) (a:=a4132) (sz:=4) (frz:=false) Zt hH rfl he4650
     obtain ⟨e4653,he4653,h⟩:=bs h
     obtain ⟨id4654,ver4655,_,hid4654f,hid4654,hid4654a,hid4654v⟩:=HP.elem (k:=0) (a:=a4132) (sz:=4) (frz:=false) Zt hH rfl he4653
     obtain ⟨r4656,hr4656,h⟩:=bs h
     refine rqS ⟨[(2,.p (.int .u8 a2_)),(4,Ze false a4_),(5,ZQ false a5_),(6,.loc 6 0),(9,.loc 9 0),(14,.loc 14 0),(15,Ze false r3125),(18,a4132),(19,iv i4141),(20,bv r4656.1),(21,iv r4656.2),(33,.agg (Zn r1)),(34,iv 2)],[(6,(Zo a0_)),(9,(ZH a3_)),(14,(Zc r1.x2))],H4133⟩ (Za.u 3 (Zk (ys:=[a4132,iv i4141]) (by rcases hfa4132 with ha4132e | ⟨_,_,ha4132e⟩<;>subst ha4132e<;>kernel_rfl) (hid4645v .i64)) (Za.u 1 (ZI (Z2 (H:=H4133) (off:=0) (cs:=[.int .i64 e4644.x0]) (r:=iv e4644.x0) Zt he4644 hid4645)) (Za.u 2 (Zk (ys:=[a4132,iv i4141]) (by rcases hfa4132 with ha4132e | ⟨_,_,ha4132e⟩<;>subst ha4132e<;>kernel_rfl) (hid4648v .i64)) (Za.u 1 (ZI (Z2 (H:=H4133) (off:=1) (cs:=[.int .i64 e4647.x1]) (r:=iv e4647.x1) Zt he4647 hid4648)) (Za.u 2 (Zk (ys:=[a4132,iv i4141]) (by rcases hfa4132 with ha4132e | ⟨_,_,ha4132e⟩<;>subst ha4132e<;>kernel_rfl) (hid4651v .i64)) (Za.u 1 (ZI (Z2 (H:=H4133) (off:=2) (cs:=[.int .i64 e4650.x2]) (r:=iv e4650.x2) Zt he4650 hid4651)) (Za.u 2 (Zk (ys:=[a4132,iv i4141]) (by rcases hfa4132 with ha4132e | ⟨_,_,ha4132e⟩<;>subst ha4132e<;>kernel_rfl) (hid4654v .i64)) (Za.u 1 (ZI (Z2 (H:=H4133) (off:=3) (cs:=[.int .i64 e4653.x3]) (r:=iv e4653.x3) Zt he4653 hid4654)) (Za.v 0 (Zu (hc:=Zcx N r1.x2 e4644.x0 e4647.x1 e4650.x2 e4653.x3 r4656 hr4656)) Za.f))))))))) (by rcases hfa4132 with ha4132e | ⟨_,_,ha4132e⟩<;>subst ha4132e<;>kernel_rfl) ?_
     refine tq (sq ?_)
     obtain ⟨e4657,he4657,h⟩:=bs h
     obtain ⟨id4658,ver4659,_,hid4658f,hid4658,hid4658a,hid4658v⟩:=HP.elem (k:=0) (a:=a4132) (sz:=4) (frz:=false) Zt hH rfl he4657
     obtain ⟨e4660,he4660,h⟩:=bs h
     obtain ⟨id4661,ver4662,_,hid4661f,hid4661,hid4661a,hid4661v⟩:=HP.elem (k:=0) (a:=a4132) (sz:=4) (frz:=false) Zt hH rfl he4660
     obtain ⟨e4663,he4663,h⟩:=bs h
     obtain ⟨id4664,ver4665,_,hid4664f,hid4664,hid4664a,hid4664v⟩:=HP.elem (k:=0) (a:=a4132) (sz:=4) (frz:=false) Zt hH rfl he4663
     obtain ⟨e4666,he4666,h⟩:=bs h
     obtain ⟨id4667,ver4668,_,hid4667f,hid4667,hid4667a,hid4667v⟩:=HP.elem (k:=0) (a:=a4132) (sz:=4) (frz:=false) Zt hH rfl he4666
     obtain ⟨r4669,hr4669,h⟩:=bs h
     refine rqS ⟨[(2,.p (.int .u8 a2_)),(4,Ze false a4_),(5,ZQ false a5_),(6,.loc 6 0),(9,.loc 9 0),(14,.loc 14 0),(15,Ze false r3125),(18,a4132),(19,iv i4141),(20,bv r4656.1),(21,iv r4656.2),(22,bv r4669.1),(23,iv r4669.2),(33,.agg (Zn r1)),(34,iv 2)],[(6,(Zo a0_)),(9,(ZH a3_)),(14,(Zc r1.x2))],H4133⟩ (Za.u 3 (Zk (ys:=[a4132,iv i4141]) (by rcases hfa4132 with ha4132e | ⟨_,_,ha4132e⟩<;>subst ha4132e<;>kernel_rfl) (hid4658v .i64)) (Za.u 1 (ZI (Z2 (H:=H4133) (off:=0) (cs:=[.int .i64 e4657.x0]) (r:=iv e4657.x0) Zt he4657 hid4658)) (Za.u 2 (Zk (ys:=[a4132,iv i4141]) (by rcases hfa4132 with ha4132e | ⟨_,_,ha4132e⟩<;>subst ha4132e<;>kernel_rfl) (hid4661v .i64)) (Za.u 1 (ZI (Z2 (H:=H4133) (off:=1) (cs:=[.int .i64 e4660.x1]) (r:=iv e4660.x1) Zt he4660 hid4661)) (Za.u 2 (Zk (ys:=[a4132,iv i4141]) (by rcases hfa4132 with ha4132e | ⟨_,_,ha4132e⟩<;>subst ha4132e<;>kernel_rfl) (hid4664v .i64)) (Za.u 1 (ZI (Z2 (H:=H4133) (off:=2) (cs:=[.int .i64 e4663.x2]) (r:=iv e4663.x2) Zt he4663 hid4664)) (Za.u 2 (Zk (ys:=[a4132,iv i4141]) (by rcases hfa4132 with ha4132e | ⟨_,_,ha4132e⟩<;>subst ha4132e<;>kernel_rfl) (hid4667v .i64)) (Za.u 1 (ZI (Z2 (H:=H4133) (off:=3) (cs:=[.int .i64 e4666.x3]) (r:=iv e4666.x3) Zt he4666 hid4667)) (Za.v 0 (Zu (hc:=Zc2 N r1.x2 e4657.x0 e4660.x1 e4663.x2 e4666.x3 r4669 hr4669)) Za.f))))))))) (by rcases hfa4132 with ha4132e | ⟨_,_,ha4132e⟩<;>subst ha4132e<;>kernel_rfl) ?_
     refine tq (sq ?_)
     refine rgX ⟨[(2,.p (.int .u8 a2_)),(4,Ze false a4_),(5,ZQ false a5_),(6,.loc 6 0),(9,.loc 9 0),(14,.loc 14 0),(15,Ze false r3125),(18,a4132),(19,iv i4141),(33,.agg (Zn r1)),(34,iv 2),(137,bv ((r4656.1 != r4669.1)||(r4656.2 != r4669.2)))],[(6,(Zo a0_)),(9,(ZH a3_)),(14,(Zc r1.x2))],H4133⟩ ?_ ?_
     ·rcases Bool.eq_false_or_eq_true (r4656.1 != r4669.1) with hc4670 | hc4671
      ·exact (EP.u 2 (Zj (c:=(r4656.1 != r4669.1)) (h:=hc4670)) (EP.f (by simp only [hc4670];rcases hfa4132 with ha4132e | ⟨_,_,ha4132e⟩<;>subst ha4132e<;>kernel_rfl)))
      exact (EP.u 2 (Zj (c:=(r4656.1 != r4669.1)) (h:=hc4671)) (EP.f (by simp only [hc4671];rcases hfa4132 with ha4132e | ⟨_,_,ha4132e⟩<;>subst ha4132e<;>kernel_rfl)))
     refine tq (it h (fun hc4672 h => ?_) (fun hc4672 h => ?_))
     ·refine sq (rgS ⟨[(12,bv false)],[],H4133⟩ Za.f (by kernel_rfl) ?_)
      replace hH:HP H4133 []:=HP.pick hH [] rfl
      refine tq (rt ?_)
      refine br (tr ?_)
      obtain rfl:=Zb h
      exact ⟨_,rfl,rfl,Zy (by kernel_rfl)⟩
     refine sk (bn ?_)
     refine tq (kq ?_)
     refine rgS ⟨[(2,.p (.int .u8 a2_)),(4,Ze false a4_),(5,ZQ false a5_),(6,.loc 6 0),(9,.loc 9 0),(14,.loc 14 0),(15,Ze false r3125),(18,a4132),(19,iv (w64 (i4141+1))),(33,.agg (Zn r1)),(34,iv 2)],[(6,(Zo a0_)),(9,(ZH a3_)),(14,(Zc r1.x2))],H4133⟩ Za.f (by rcases hfa4132 with ha4132e | ⟨_,_,ha4132e⟩<;>subst ha4132e<;>kernel_rfl) ?_
     obtain rfl:=Zb h
     exact ⟨_,rfl,(by show _=_;rcases hfa4132 with ha4132e | ⟨_,_,ha4132e⟩<;>subst ha4132e<;>kernel_rfl)⟩
    refine kq ?_
    replace hH:HP H4133 []:=HP.pick hH [] rfl
    refine xq (tx ?_)
    obtain rfl:=Zb h
    exact ⟨_,rfl,rfl,(by show _=_;kernel_rfl)⟩
   rintro e s hq
   rcases o4673 with p4674 | p4686
   ·dsimp only at h hq
    obtain ⟨rfl,hR⟩:=hq
    obtain rfl:=hR
    replace hH:HP H4133 []:=HP.pick hH [] rfl
    refine bx (tq ?_)
    refine sq (rg Za.f ?_)
    refine tq (bk ?_)
    refine Zez 18 ?_
    refine Zal ?_
    refine sq (rg Za.f ?_)
    refine tq (sq ?_)
    refine Zbb (by kernel_rfl) ?_
    refine sk (tq ?_)
    refine kq (sq ?_)
    refine bk (sq ?_)
    refine rg Za.f (tq ?_)
    refine sq ?_
    obtain ⟨r4675,hr4675,h⟩:=bs h
    refine rg (Za.v 2 (Zu (hc:=Zb4 N r1.x2 a4_ r4675 hr4675)) Za.f) (tq ?_)
    refine sq ?_
    obtain ⟨r4676,hr4676,h⟩:=bs h
    refine rg (Za.v 2 (Zu (hc:=Zce N r1.x2 a4_ r4676 hr4676)) Za.f) (tq ?_)
    refine sq (rgX ⟨[(2,.p (.int .u8 a2_)),(4,Ze false a4_),(5,ZQ false a5_),(6,.loc 6 0),(9,.loc 9 0),(14,.loc 14 0),(33,.agg (Zn r1)),(34,iv 2),(140,.agg [Ze false a4_,Ze false r3125]),(141,iv 0),(163,bv ((r4675.1 != r4676.1)||(r4675.2 != r4676.2)))],[(6,(Zo a0_)),(9,(ZH a3_)),(14,(Zc r1.x2))],H4133⟩ ?_ ?_)
    ·rcases Bool.eq_false_or_eq_true (r4675.1 != r4676.1) with hc4677 | hc4678
     ·exact (EP.u 2 (Zj (c:=(r4675.1 != r4676.1)) (h:=hc4677)) (EP.f (by simp only [hc4677];kernel_rfl)))
     exact (EP.u 2 (Zj (c:=(r4675.1 != r4676.1)) (h:=hc4678)) (EP.f (by simp only [hc4678];kernel_rfl)))
    refine tq (it h (fun hc4679 h => ?_) (fun hc4679 h => ?_))
    ·refine sq (rg Za.f ?_)
     refine tq (rt ?_)
     refine br (tr ?_)
     refine tr (br ?_)
     refine br (tr ?_)
     refine tr (br ?_)
     refine tr ?_
     obtain rfl:=Zb h
     exact Zy (by kernel_rfl)
    refine sk (bn ?_)
    refine tq (kq ?_)
    refine rg Za.f (tq ?_)
    refine Zal ?_
    refine sq (rg Za.f ?_)
    refine tq (sq ?_)
    refine Zbb (by kernel_rfl) ?_
    refine sk (tq ?_)
    refine kq (sq ?_)
    refine bk (sq ?_)
    refine rg Za.f (tq ?_)
    refine sq ?_
    obtain ⟨r4680,hr4680,h⟩:=bs h
    refine rg (Za.v 2 (Zu (hc:=Zb4 N r1.x2 r3125 r4680 hr4680)) Za.f) (tq ?_)
    refine sq ?_
    obtain ⟨r4681,hr4681,h⟩:=bs h
    refine rg (Za.v 2 (Zu (hc:=Zce N r1.x2 r3125 r4681 hr4681)) Za.f) (tq ?_)
    refine sq (rgX ⟨[(2,.p (.int .u8 a2_)),(4,Ze false a4_),(5,ZQ false a5_),(6,.loc 6 0),(9,.loc 9 0),(14,.loc 14 0),(33,.agg (Zn r1)),(34,iv 2),(140,.agg [Ze false a4_,Ze false r3125]),(141,iv 1),(163,bv ((r4680.1 != r4681.1)||(r4680.2 != r4681.2)))],[(6,(Zo a0_)),(9,(ZH a3_)),(14,(Zc r1.x2))],H4133⟩ ?_ ?_)
    ·rcases Bool.eq_false_or_eq_true (r4680.1 != r4681.1) with hc4682 | hc4683
     ·exact (EP.u 2 (Zj (c:=(r4680.1 != r4681.1)) (h:=hc4682)) (EP.f (by simp only [hc4682];kernel_rfl)))
     exact (EP.u 2 (Zj (c:=(r4680.1 != r4681.1)) (h:=hc4683)) (EP.f (by simp only [hc4683];kernel_rfl)))
    refine tq (it h (fun hc4684 h => ?_) (fun hc4684 h => ?_))
    ·refine sq (rg Za.f ?_)
     refine tq (rt ?_)
     refine br (tr ?_)
     refine tr (br ?_)
     refine br (tr ?_)
     refine tr (br ?_)
     refine tr ?_
     obtain rfl:=Zb h
     exact Zy (by kernel_rfl)
    refine sk (bn ?_)
    refine tq (kq ?_)
    refine rg Za.f (tq ?_)
    refine Zal ?_
    refine sq (rg Za.f ?_)
    refine tq (sq ?_)
    refine ZfL (by kernel_rfl) ?_
    refine kq (xq ?_)
    refine tx (tx ?_)
    refine bx (bn ?_)
    refine tq (kq ?_)
    refine rg Za.f (tq ?_)
    refine Zal ?_
    refine sq (rg Za.f ?_)
    refine tq (sq ?_)
    refine ZfL (by kernel_rfl) ?_
    refine kq (xq ?_)
    refine tx (tx ?_)
    refine bx (tq ?_)
    refine sq ?_
    obtain ⟨r4685,hr4685,h⟩:=bs h
    refine rg (Za.v 0 (Zu (hc:=Zju N  r4685 hr4685)) Za.f) (tq ?_)
    refine rt ?_
    obtain rfl:=Zb h
    exact Zy (by kernel_rfl)
   dsimp only at h hq
   obtain ⟨rfl,hq⟩:=hq
   refine br (tr ?_)
   refine br (tr ?_)
   refine tr (br ?_)
   refine tr ?_
   obtain rfl:=Zb h
   exact hq
  dsimp only at h hq
  obtain ⟨rfl,hq⟩:=hq
  refine br (tr ?_)
  refine br (tr ?_)
  refine tr (br ?_)
  refine tr ?_
  obtain rfl:=Zb h
  exact hq
 dsimp only at h hq
 obtain ⟨rfl,hq⟩:=hq
 refine br (tr ?_)
 refine br (tr ?_)
 refine tr (br ?_)
 refine tr ?_
 obtain rfl:=Zb h
 exact hq
end Go.Sh

