/- Part of the proof; written by a program out of the texts in wip/. -/
import Derived.Test.YtmplmekdilmdgaaStreamHopsOk3
namespace Go.Sh
open Go Go.Eng Go.Proofs
set_option linter.unusedVariables false
set_option linter.unusedSimpArgs false
set_option maxRecDepth 100000
set_option maxHeartbeats 4000000
attribute [local irreducible] vc ev ZfH opsD opsF Zg7 upd updH updO
theorem law22_StreamHops_ok (N:Nat) (a0_:Zbj) (a1_:Int) (r:Bool) (h:Zdh N a0_ a1_=some r):Zal Try.prog 3 [.agg (ZI a0_),iv a1_] (bv r):=by
 unfold Zdh at h
 have hH:HP ([]:List HO) []:=trivial
 refine ZF chk3 rfl rfl (Zv _ _ _ ?_) rfl
 refine sq (rg Zb.f ?_)
 refine tq (sq ?_)
 obtain ⟨r1,hr1,h⟩:=bs h
 refine rg (Zb.v 2 (Zs (hc:=Zg2 N a0_.T r1 hr1)) Zb.f) (tq ?_)
 refine sq (sq ?_)
 obtain ⟨r2,hr2,h⟩:=bs h
 refine rg (Zb.v 2 (Zs (hc:=Zgn N a0_ r1 r2 hr2)) Zb.f) (tq ?_)
 refine bk (Zdu 18 ?_)
 refine Z5 ?_
 refine sq (rg Zb.f ?_)
 refine tq (sq ?_)
 refine ZaP (by kernel_rfl) ?_
 refine sk (tq ?_)
 refine kq (sq ?_)
 refine bk (sq ?_)
 refine rg Zb.f (tq ?_)
 refine sq (rg Zb.f ?_)
 refine tq (bk ?_)
 obtain ⟨o608,ho608,h⟩:=bs h
 refine Z8 ((ZT (fun (x:Int) s=>s=⟨[(1,iv a1_),(2,.loc 2 0),(5,.loc 5 0),(7,Zd false r2.x0),(8,iv x),(26,.agg (ZD r2)),(27,iv 0)],[(2,(ZI a0_)),(5,(Za r1))],[]⟩) (fun x:Int=>Zav N a0_ a1_ r1 r2 x) (fun (p:(Unit) ⊕ (Bool)) e s=>match p with | (.inl p)=>e = .exit 2∧(s=⟨[(1,iv a1_),(2,.loc 2 0),(5,.loc 5 0),(26,.agg (ZD r2)),(27,iv 0)],[(2,(ZI a0_)),(5,(Za r1))],[]⟩) | (.inr p)=>e = .ret∧∃ xs,resL s i3.res=some xs∧Zbr xs=bv p) ?_ N _ o608 _ ho608 (by show _=_;kernel_rfl)).mono ?_)
 ·clear h ho608
  rintro i3 o s h hR
  obtain rfl:=hR
  replace h:Zav N a0_ a1_ r1 r2 i3=some o:=h
  unfold Zav at h
  refine sq (sq ?_)
  refine rg (Zb.u 2 (Zo (ys:=[Zd false r2.x0]) (h:=ZB Zf)) Zb.f) (tq ?_)
  refine it h (fun hc504 h => ?_) (fun hc504 h => ?_)
  ·refine sk (tq ?_)
   refine kq (sq ?_)
   refine bk (sq ?_)
   obtain ⟨r505,hr505,h⟩:=bs h
   refine rq (Zb.u 11 (Zaw (hc:=ZfT N a0_.U.x0 a0_.U.x1 a0_.U.x2 r505 hr505)) Zb.f) (tq ?_)
   refine bk (Zdu 18 ?_)
   refine Z5 ?_
   refine sq (rg Zb.f ?_)
   refine tq (sq ?_)
   refine ZaP (by kernel_rfl) ?_
   refine sk (tq ?_)
   refine kq (sq ?_)
   refine bk (sq ?_)
   refine rg Zb.f (tq ?_)
   refine sq (rg Zb.f ?_)
   refine tq (bk ?_)
   refine Zdu 18 ?_
   refine Z5 ?_
   refine sq (rg Zb.f ?_)
   refine tq (sq ?_)
   refine ZaP (by kernel_rfl) ?_
   refine sk (tq ?_)
   refine kq (sq ?_)
   refine bk (sq ?_)
   refine rg Zb.f (tq ?_)
   refine sq ?_
   obtain ⟨e506,he506,h⟩:=bs h
   obtain ⟨r507,hr507,h⟩:=bs h
   refine rq (Zb.u 4 (Zo (ys:=[Zd false r2.x0,iv i3]) (h:=Zg Zf he506)) (Zb.u 0 (Zw (Zq (sz:=10) (off:=0) (cs:=[.int .i64 e506.Id,.int .i64 e506.Talker,.int .i64 e506.Listener,.int .i64 e506.Class,.int .i64 e506.Size,.int .i64 e506.Period,.int .i64 e506.Bucket.Burst,.int .i64 e506.Bucket.Rate,.int .i64 e506.Deadline,.sl 1 false (List.map (eSl 1 eI64) e506.Routes)]) (r:=.agg (Ze e506)) Zf he506)) (Zb.v 1 (Zs (hc:=Zap N r1 a0_.Setup e506 a1_ r507 hr507)) Zb.f))) (tq ?_)
   refine sq ?_
   obtain ⟨e508,he508,h⟩:=bs h
   obtain ⟨r509,hr509,h⟩:=bs h
   refine rq (Zb.u 4 (Zo (ys:=[Zd false r2.x0,iv i3]) (h:=Zg Zf he508)) (Zb.u 0 (Zw (Zq (sz:=10) (off:=0) (cs:=[.int .i64 e508.Id,.int .i64 e508.Talker,.int .i64 e508.Listener,.int .i64 e508.Class,.int .i64 e508.Size,.int .i64 e508.Period,.int .i64 e508.Bucket.Burst,.int .i64 e508.Bucket.Rate,.int .i64 e508.Deadline,.sl 1 false (List.map (eSl 1 eI64) e508.Routes)]) (r:=.agg (Ze e508)) Zf he508)) (Zb.v 1 (Zs (hc:=ZaO N r1 a0_.Setup e508 a1_ r509 hr509)) Zb.f))) (tq ?_)
   refine sq ?_
   obtain ⟨e510,he510,h⟩:=bs h
   obtain ⟨r511,hr511,h⟩:=bs h
   refine rq (Zb.u 4 (Zo (ys:=[Zd false r2.x0,iv i3]) (h:=Zg Zf he510)) (Zb.u 0 (Zw (Zq (sz:=10) (off:=0) (cs:=[.int .i64 e510.Id,.int .i64 e510.Talker,.int .i64 e510.Listener,.int .i64 e510.Class,.int .i64 e510.Size,.int .i64 e510.Period,.int .i64 e510.Bucket.Burst,.int .i64 e510.Bucket.Rate,.int .i64 e510.Deadline,.sl 1 false (List.map (eSl 1 eI64) e510.Routes)]) (r:=.agg (Ze e510)) Zf he510)) (Zb.v 1 (Zs (hc:=Zax N r1 a0_.Setup e510 a1_ r511 hr511)) Zb.f))) (tq ?_)
   refine sq ?_
   obtain ⟨e512,he512,h⟩:=bs h
   obtain ⟨r513,hr513,h⟩:=bs h
   refine rq (Zb.u 4 (Zo (ys:=[Zd false r2.x0,iv i3]) (h:=Zg Zf he512)) (Zb.u 0 (Zw (Zq (sz:=10) (off:=0) (cs:=[.int .i64 e512.Id,.int .i64 e512.Talker,.int .i64 e512.Listener,.int .i64 e512.Class,.int .i64 e512.Size,.int .i64 e512.Period,.int .i64 e512.Bucket.Burst,.int .i64 e512.Bucket.Rate,.int .i64 e512.Deadline,.sl 1 false (List.map (eSl 1 eI64) e512.Routes)]) (r:=.agg (Ze e512)) Zf he512)) (Zb.v 1 (Zs (hc:=ZaN N r1 a0_.Setup e512 a1_ r513 hr513)) Zb.f))) (tq ?_)
   refine sq ?_
   obtain ⟨j521,hj,h⟩:=bs h
   refine rgR (fun s=>s=⟨[(1,iv a1_),(2,.loc 2 0),(5,.loc 5 0),(7,Zd false r2.x0),(8,iv i3),(10,.loc 10 0),(26,.agg (ZD r2)),(27,iv 0),(48,.agg [iv a0_.Setup.Grid,iv a0_.Setup.Slack,iv a0_.Setup.Proc,iv a0_.Setup.Cap,iv r505.Grid,iv r505.Slack,iv r505.Proc,iv r505.Cap]),(49,iv 0),(53,.agg [iv a1_,iv 0,iv 1]),(54,iv 0),(119,bv j521)],[(2,(ZI a0_)),(5,(Za r1)),(10,(Zn a0_.Setup))],[]⟩) ?_ ?_
   ·clear h
    rcases Zt hj with ⟨hc514,hj⟩ | ⟨hc515,hj⟩
    ·obtain rfl:=Zc hj
     exact (EP.u 2 (Zj (c:=(r507.2 != r509.2)) (h:=hc514)) (EP.f (by show _=_;kernel_rfl)))
    refine (EP.u 2 (Zj (c:=(r507.2 != r509.2)) (h:=hc515)) ?_)
    rcases Zt hj with ⟨hc516,hj⟩ | ⟨hc517,hj⟩
    ·obtain rfl:=Zc hj
     exact (EP.u 3 (Zj (c:=(r511.2 != r513.2)) (h:=hc516)) (EP.f (by show _=_;kernel_rfl)))
    refine (EP.u 3 (Zj (c:=(r511.2 != r513.2)) (h:=hc517)) ?_)
    rcases Zt hj with ⟨hc518,hj⟩ | ⟨hc519,hj⟩
    ·obtain rfl:=Zc hj
     exact (EP.u 4 (Zj (c:=(r511.1 != r513.1)) (h:=hc518)) (EP.f (by show _=_;kernel_rfl)))
    refine (EP.u 4 (Zj (c:=(r511.1 != r513.1)) (h:=hc519)) ?_)
    obtain ⟨r520,hr520,hj⟩:=bs hj
    obtain rfl:=Zc hj
    exact (EP.v 4 (Zs (hc:=Zae N r507.1 r509.1 r520 hr520)) (EP.f (by show _=_;kernel_rfl)))
   clear hj
   rintro s hR
   obtain rfl:=hR
   refine tq (it h (fun hc522 h => ?_) (fun hc522 h => ?_))
   ·refine sq (rg Zb.f ?_)
    refine tq (rt ?_)
    refine br (tr ?_)
    refine tr (br ?_)
    refine br (tr ?_)
    refine tr (br ?_)
    refine br (tr ?_)
    obtain rfl:=Zc h
    exact ⟨_,rfl,rfl,ZC (by kernel_rfl)⟩
   refine sk (bn ?_)
   refine tq (kq ?_)
   refine rg Zb.f (tq ?_)
   refine Z5 ?_
   refine sq (rg Zb.f ?_)
   refine tq (sq ?_)
   refine ZaP (by kernel_rfl) ?_
   refine sk (tq ?_)
   refine kq (sq ?_)
   refine bk (sq ?_)
   refine rg Zb.f (tq ?_)
   refine sq ?_
   obtain ⟨e523,he523,h⟩:=bs h
   obtain ⟨r524,hr524,h⟩:=bs h
   refine rq (Zb.u 4 (Zo (ys:=[Zd false r2.x0,iv i3]) (h:=Zg Zf he523)) (Zb.u 0 (Zw (Zq (sz:=10) (off:=0) (cs:=[.int .i64 e523.Id,.int .i64 e523.Talker,.int .i64 e523.Listener,.int .i64 e523.Class,.int .i64 e523.Size,.int .i64 e523.Period,.int .i64 e523.Bucket.Burst,.int .i64 e523.Bucket.Rate,.int .i64 e523.Deadline,.sl 1 false (List.map (eSl 1 eI64) e523.Routes)]) (r:=.agg (Ze e523)) Zf he523)) (Zb.v 1 (Zs (hc:=Zap N r1 a0_.Setup e523 0 r524 hr524)) Zb.f))) (tq ?_)
   refine sq ?_
   obtain ⟨e525,he525,h⟩:=bs h
   obtain ⟨r526,hr526,h⟩:=bs h
   refine rq (Zb.u 4 (Zo (ys:=[Zd false r2.x0,iv i3]) (h:=Zg Zf he525)) (Zb.u 0 (Zw (Zq (sz:=10) (off:=0) (cs:=[.int .i64 e525.Id,.int .i64 e525.Talker,.int .i64 e525.Listener,.int .i64 e525.Class,.int .i64 e525.Size,.int .i64 e525.Period,.int .i64 e525.Bucket.Burst,.int .i64 e525.Bucket.Rate,.int .i64 e525.Deadline,.sl 1 false (List.map (eSl 1 eI64) e525.Routes)]) (r:=.agg (Ze e525)) Zf he525)) (Zb.v 1 (Zs (hc:=ZaO N r1 a0_.Setup e525 0 r526 hr526)) Zb.f))) (tq ?_)
   refine sq ?_
   obtain ⟨e527,he527,h⟩:=bs h
   obtain ⟨r528,hr528,h⟩:=bs h
   refine rq (Zb.u 4 (Zo (ys:=[Zd false r2.x0,iv i3]) (h:=Zg Zf he527)) (Zb.u 0 (Zw (Zq (sz:=10) (off:=0) (cs:=[.int .i64 e527.Id,.int .i64 e527.Talker,.int .i64 e527.Listener,.int .i64 e527.Class,.int .i64 e527.Size,.int .i64 e527.Period,.int .i64 e527.Bucket.Burst,.int .i64 e527.Bucket.Rate,.int .i64 e527.Deadline,.sl 1 false (List.map (eSl 1 eI64) e527.Routes)]) (r:=.agg (Ze e527)) Zf he527)) (Zb.v 1 (Zs (hc:=Zax N r1 a0_.Setup e527 0 r528 hr528)) Zb.f))) (tq ?_)
   refine sq ?_
   obtain ⟨e529,he529,h⟩:=bs h
   obtain ⟨r530,hr530,h⟩:=bs h
   refine rq (Zb.u 4 (Zo (ys:=[Zd false r2.x0,iv i3]) (h:=Zg Zf he529)) (Zb.u 0 (Zw (Zq (sz:=10) (off:=0) (cs:=[.int .i64 e529.Id,.int .i64 e529.Talker,.int .i64 e529.Listener,.int .i64 e529.Class,.int .i64 e529.Size,.int .i64 e529.Period,.int .i64 e529.Bucket.Burst,.int .i64 e529.Bucket.Rate,.int .i64 e529.Deadline,.sl 1 false (List.map (eSl 1 eI64) e529.Routes)]) (r:=.agg (Ze e529)) Zf he529)) (Zb.v 1 (Zs (hc:=ZaN N r1 a0_.Setup e529 0 r530 hr530)) Zb.f))) (tq ?_)
   refine sq ?_
   obtain ⟨j538,hj,h⟩:=bs h
   refine rgR (fun s=>s=⟨[(1,iv a1_),(2,.loc 2 0),(5,.loc 5 0),(7,Zd false r2.x0),(8,iv i3),(10,.loc 10 0),(26,.agg (ZD r2)),(27,iv 0),(48,.agg [iv a0_.Setup.Grid,iv a0_.Setup.Slack,iv a0_.Setup.Proc,iv a0_.Setup.Cap,iv r505.Grid,iv r505.Slack,iv r505.Proc,iv r505.Cap]),(49,iv 0),(53,.agg [iv a1_,iv 0,iv 1]),(54,iv 1),(119,bv j538)],[(2,(ZI a0_)),(5,(Za r1)),(10,(Zn a0_.Setup))],[]⟩) ?_ ?_
   ·clear h
    rcases Zt hj with ⟨hc531,hj⟩ | ⟨hc532,hj⟩
    ·obtain rfl:=Zc hj
     exact (EP.u 2 (Zj (c:=(r524.2 != r526.2)) (h:=hc531)) (EP.f (by show _=_;kernel_rfl)))
    refine (EP.u 2 (Zj (c:=(r524.2 != r526.2)) (h:=hc532)) ?_)
    rcases Zt hj with ⟨hc533,hj⟩ | ⟨hc534,hj⟩
    ·obtain rfl:=Zc hj
     exact (EP.u 3 (Zj (c:=(r528.2 != r530.2)) (h:=hc533)) (EP.f (by show _=_;kernel_rfl)))
    refine (EP.u 3 (Zj (c:=(r528.2 != r530.2)) (h:=hc534)) ?_)
    rcases Zt hj with ⟨hc535,hj⟩ | ⟨hc536,hj⟩
    ·obtain rfl:=Zc hj
     exact (EP.u 4 (Zj (c:=(r528.1 != r530.1)) (h:=hc535)) (EP.f (by show _=_;kernel_rfl)))
    refine (EP.u 4 (Zj (c:=(r528.1 != r530.1)) (h:=hc536)) ?_)
    obtain ⟨r537,hr537,hj⟩:=bs hj
    obtain rfl:=Zc hj
    exact (EP.v 4 (Zs (hc:=Zae N r524.1 r526.1 r537 hr537)) (EP.f (by show _=_;kernel_rfl)))
   clear hj
   rintro s hR
   obtain rfl:=hR
   refine tq (it h (fun hc539 h => ?_) (fun hc539 h => ?_))
   ·refine sq (rg Zb.f ?_)
    refine tq (rt ?_)
    refine br (tr ?_)
    refine tr (br ?_)
    refine br (tr ?_)
    refine tr (br ?_)
    refine br (tr ?_)
    obtain rfl:=Zc h
    exact ⟨_,rfl,rfl,ZC (by kernel_rfl)⟩
   refine sk (bn ?_)
   refine tq (kq ?_)
   refine rg Zb.f (tq ?_)
   refine Z5 ?_
   refine sq (rg Zb.f ?_)
   refine tq (sq ?_)
   refine ZaP (by kernel_rfl) ?_
   refine sk (tq ?_)
   refine kq (sq ?_)
   refine bk (sq ?_)
   refine rg Zb.f (tq ?_)
   refine sq ?_
   obtain ⟨e540,he540,h⟩:=bs h
   obtain ⟨r541,hr541,h⟩:=bs h
   refine rq (Zb.u 4 (Zo (ys:=[Zd false r2.x0,iv i3]) (h:=Zg Zf he540)) (Zb.u 0 (Zw (Zq (sz:=10) (off:=0) (cs:=[.int .i64 e540.Id,.int .i64 e540.Talker,.int .i64 e540.Listener,.int .i64 e540.Class,.int .i64 e540.Size,.int .i64 e540.Period,.int .i64 e540.Bucket.Burst,.int .i64 e540.Bucket.Rate,.int .i64 e540.Deadline,.sl 1 false (List.map (eSl 1 eI64) e540.Routes)]) (r:=.agg (Ze e540)) Zf he540)) (Zb.v 1 (Zs (hc:=Zap N r1 a0_.Setup e540 1 r541 hr541)) Zb.f))) (tq ?_)
   refine sq ?_
   obtain ⟨e542,he542,h⟩:=bs h
   obtain ⟨r543,hr543,h⟩:=bs h
   refine rq (Zb.u 4 (Zo (ys:=[Zd false r2.x0,iv i3]) (h:=Zg Zf he542)) (Zb.u 0 (Zw (Zq (sz:=10) (off:=0) (cs:=[.int .i64 e542.Id,.int .i64 e542.Talker,.int .i64 e542.Listener,.int .i64 e542.Class,.int .i64 e542.Size,.int .i64 e542.Period,.int .i64 e542.Bucket.Burst,.int .i64 e542.Bucket.Rate,.int .i64 e542.Deadline,.sl 1 false (List.map (eSl 1 eI64) e542.Routes)]) (r:=.agg (Ze e542)) Zf he542)) (Zb.v 1 (Zs (hc:=ZaO N r1 a0_.Setup e542 1 r543 hr543)) Zb.f))) (tq ?_)
   refine sq ?_
   obtain ⟨e544,he544,h⟩:=bs h
   obtain ⟨r545,hr545,h⟩:=bs h
   refine rq (Zb.u 4 (Zo (ys:=[Zd false r2.x0,iv i3]) (h:=Zg Zf he544)) (Zb.u 0 (Zw (Zq (sz:=10) (off:=0) (cs:=[.int .i64 e544.Id,.int .i64 e544.Talker,.int .i64 e544.Listener,.int .i64 e544.Class,.int .i64 e544.Size,.int .i64 e544.Period,.int .i64 e544.Bucket.Burst,.int .i64 e544.Bucket.Rate,.int .i64 e544.Deadline,.sl 1 false (List.map (eSl 1 eI64) e544.Routes)]) (r:=.agg (Ze e544)) Zf he544)) (Zb.v 1 (Zs (hc:=Zax N r1 a0_.Setup e544 1 r545 hr545)) Zb.f))) (tq ?_)
   refine sq ?_
   obtain ⟨e546,he546,h⟩:=bs h
   obtain ⟨r547,hr547,h⟩:=bs h
   refine rq (Zb.u 4 (Zo (ys:=[Zd false r2.x0,iv i3]) (h:=Zg Zf he546)) (Zb.u 0 (Zw (Zq (sz:=10) (off:=0) (cs:=[.int .i64 e546.Id,.int .i64 e546.Talker,.int .i64 e546.Listener,.int .i64 e546.Class,.int .i64 e546.Size,.int .i64 e546.Period,.int .i64 e546.Bucket.Burst,.int .i64 e546.Bucket.Rate,.int .i64 e546.Deadline,.sl 1 false (List.map (eSl 1 eI64) e546.Routes)]) (r:=.agg (Ze e546)) Zf he546)) (Zb.v 1 (Zs (hc:=ZaN N r1 a0_.Setup e546 1 r547 hr547)) Zb.f))) (tq ?_)
   refine sq ?_
   obtain ⟨j555,hj,h⟩:=bs h
   refine rgR (fun s=>s=⟨[(1,iv a1_),(2,.loc 2 0),(5,.loc 5 0),(7,Zd false r2.x0),(8,iv i3),(10,.loc 10 0),(26,.agg (ZD r2)),(27,iv 0),(48,.agg [iv a0_.Setup.Grid,iv a0_.Setup.Slack,iv a0_.Setup.Proc,iv a0_.Setup.Cap,iv r505.Grid,iv r505.Slack,iv r505.Proc,iv r505.Cap]),(49,iv 0),(53,.agg [iv a1_,iv 0,iv 1]),(54,iv 2),(119,bv j555)],[(2,(ZI a0_)),(5,(Za r1)),(10,(Zn a0_.Setup))],[]⟩) ?_ ?_
   ·clear h
    rcases Zt hj with ⟨hc548,hj⟩ | ⟨hc549,hj⟩
    ·obtain rfl:=Zc hj
     exact (EP.u 2 (Zj (c:=(r541.2 != r543.2)) (h:=hc548)) (EP.f (by show _=_;kernel_rfl)))
    refine (EP.u 2 (Zj (c:=(r541.2 != r543.2)) (h:=hc549)) ?_)
    rcases Zt hj with ⟨hc550,hj⟩ | ⟨hc551,hj⟩
    ·obtain rfl:=Zc hj
     exact (EP.u 3 (Zj (c:=(r545.2 != r547.2)) (h:=hc550)) (EP.f (by show _=_;kernel_rfl)))
    refine (EP.u 3 (Zj (c:=(r545.2 != r547.2)) (h:=hc551)) ?_)
    rcases Zt hj with ⟨hc552,hj⟩ | ⟨hc553,hj⟩
    ·obtain rfl:=Zc hj
     exact (EP.u 4 (Zj (c:=(r545.1 != r547.1)) (h:=hc552)) (EP.f (by show _=_;kernel_rfl)))
    refine (EP.u 4 (Zj (c:=(r545.1 != r547.1)) (h:=hc553)) ?_)
    obtain ⟨r554,hr554,hj⟩:=bs hj
    obtain rfl:=Zc hj
    exact (EP.v 4 (Zs (hc:=Zae N r541.1 r543.1 r554 hr554)) (EP.f (by show _=_;kernel_rfl)))
   clear hj
   rintro s hR
   obtain rfl:=hR
   refine tq (it h (fun hc556 h => ?_) (fun hc556 h => ?_))
   ·refine sq (rg Zb.f ?_)
    refine tq (rt ?_)
    refine br (tr ?_)
    refine tr (br ?_)
    refine br (tr ?_)
    refine tr (br ?_)
    refine br (tr ?_)
    obtain rfl:=Zc h
    exact ⟨_,rfl,rfl,ZC (by kernel_rfl)⟩
   refine sk (bn ?_)
   refine tq (kq ?_)
   refine rg Zb.f (tq ?_)
   refine Z5 ?_
   refine sq (rg Zb.f ?_)
   refine tq (sq ?_)
   refine Zdv (by kernel_rfl) ?_
   refine kq (xq ?_)
   refine tx (tx ?_)
   refine bx (bn ?_)
   refine tq (rg Zb.f ?_)
   refine tq (Z5 ?_)
   refine sq (rg Zb.f ?_)
   refine tq (sq ?_)
   refine ZaP (by kernel_rfl) ?_
   refine sk (tq ?_)
   refine kq (sq ?_)
   refine bk (sq ?_)
   refine rg Zb.f (tq ?_)
   refine sq (rg Zb.f ?_)
   refine tq (bk ?_)
   refine Zdu 18 ?_
   refine Z5 ?_
   refine sq (rg Zb.f ?_)
   refine tq (sq ?_)
   refine ZaP (by kernel_rfl) ?_
   refine sk (tq ?_)
   refine kq (sq ?_)
   refine bk (sq ?_)
   refine rg Zb.f (tq ?_)
   refine sq ?_
   obtain ⟨e557,he557,h⟩:=bs h
   obtain ⟨r558,hr558,h⟩:=bs h
   refine rq (Zb.u 4 (Zo (ys:=[Zd false r2.x0,iv i3]) (h:=Zg Zf he557)) (Zb.u 0 (Zw (Zq (sz:=10) (off:=0) (cs:=[.int .i64 e557.Id,.int .i64 e557.Talker,.int .i64 e557.Listener,.int .i64 e557.Class,.int .i64 e557.Size,.int .i64 e557.Period,.int .i64 e557.Bucket.Burst,.int .i64 e557.Bucket.Rate,.int .i64 e557.Deadline,.sl 1 false (List.map (eSl 1 eI64) e557.Routes)]) (r:=.agg (Ze e557)) Zf he557)) (Zb.v 1 (Zs (hc:=Zap N r1 r505 e557 a1_ r558 hr558)) Zb.f))) (tq ?_)
   refine sq ?_
   obtain ⟨e559,he559,h⟩:=bs h
   obtain ⟨r560,hr560,h⟩:=bs h
   refine rq (Zb.u 4 (Zo (ys:=[Zd false r2.x0,iv i3]) (h:=Zg Zf he559)) (Zb.u 0 (Zw (Zq (sz:=10) (off:=0) (cs:=[.int .i64 e559.Id,.int .i64 e559.Talker,.int .i64 e559.Listener,.int .i64 e559.Class,.int .i64 e559.Size,.int .i64 e559.Period,.int .i64 e559.Bucket.Burst,.int .i64 e559.Bucket.Rate,.int .i64 e559.Deadline,.sl 1 false (List.map (eSl 1 eI64) e559.Routes)]) (r:=.agg (Ze e559)) Zf he559)) (Zb.v 1 (Zs (hc:=ZaO N r1 r505 e559 a1_ r560 hr560)) Zb.f))) (tq ?_)
   refine sq ?_
   obtain ⟨e561,he561,h⟩:=bs h
   obtain ⟨r562,hr562,h⟩:=bs h
   refine rq (Zb.u 4 (Zo (ys:=[Zd false r2.x0,iv i3]) (h:=Zg Zf he561)) (Zb.u 0 (Zw (Zq (sz:=10) (off:=0) (cs:=[.int .i64 e561.Id,.int .i64 e561.Talker,.int .i64 e561.Listener,.int .i64 e561.Class,.int .i64 e561.Size,.int .i64 e561.Period,.int .i64 e561.Bucket.Burst,.int .i64 e561.Bucket.Rate,.int .i64 e561.Deadline,.sl 1 false (List.map (eSl 1 eI64) e561.Routes)]) (r:=.agg (Ze e561)) Zf he561)) (Zb.v 1 (Zs (hc:=Zax N r1 r505 e561 a1_ r562 hr562)) Zb.f))) (tq ?_)
   refine sq ?_
   obtain ⟨e563,he563,h⟩:=bs h
   obtain ⟨r564,hr564,h⟩:=bs h
   refine rq (Zb.u 4 (Zo (ys:=[Zd false r2.x0,iv i3]) (h:=Zg Zf he563)) (Zb.u 0 (Zw (Zq (sz:=10) (off:=0) (cs:=[.int .i64 e563.Id,.int .i64 e563.Talker,.int .i64 e563.Listener,.int .i64 e563.Class,.int .i64 e563.Size,.int .i64 e563.Period,.int .i64 e563.Bucket.Burst,.int .i64 e563.Bucket.Rate,.int .i64 e563.Deadline,.sl 1 false (List.map (eSl 1 eI64) e563.Routes)]) (r:=.agg (Ze e563)) Zf he563)) (Zb.v 1 (Zs (hc:=ZaN N r1 r505 e563 a1_ r564 hr564)) Zb.f))) (tq ?_)
   refine sq ?_
   obtain ⟨j572,hj,h⟩:=bs h
   refine rgR (fun s=>s=⟨[(1,iv a1_),(2,.loc 2 0),(5,.loc 5 0),(7,Zd false r2.x0),(8,iv i3),(10,.loc 10 0),(26,.agg (ZD r2)),(27,iv 0),(48,.agg [iv a0_.Setup.Grid,iv a0_.Setup.Slack,iv a0_.Setup.Proc,iv a0_.Setup.Cap,iv r505.Grid,iv r505.Slack,iv r505.Proc,iv r505.Cap]),(49,iv 1),(53,.agg [iv a1_,iv 0,iv 1]),(54,iv 0),(119,bv j572)],[(2,(ZI a0_)),(5,(Za r1)),(10,(Zn r505))],[]⟩) ?_ ?_
   ·clear h
    rcases Zt hj with ⟨hc565,hj⟩ | ⟨hc566,hj⟩
    ·obtain rfl:=Zc hj
     exact (EP.u 2 (Zj (c:=(r558.2 != r560.2)) (h:=hc565)) (EP.f (by show _=_;kernel_rfl)))
    refine (EP.u 2 (Zj (c:=(r558.2 != r560.2)) (h:=hc566)) ?_)
    rcases Zt hj with ⟨hc567,hj⟩ | ⟨hc568,hj⟩
    ·obtain rfl:=Zc hj
     exact (EP.u 3 (Zj (c:=(r562.2 != r564.2)) (h:=hc567)) (EP.f (by show _=_;kernel_rfl)))
    refine (EP.u 3 (Zj (c:=(r562.2 != r564.2)) (h:=hc568)) ?_)
    rcases Zt hj with ⟨hc569,hj⟩ | ⟨hc570,hj⟩
    ·obtain rfl:=Zc hj
     exact (EP.u 4 (Zj (c:=(r562.1 != r564.1)) (h:=hc569)) (EP.f (by show _=_;kernel_rfl)))
    refine (EP.u 4 (Zj (c:=(r562.1 != r564.1)) (h:=hc570)) ?_)
    obtain ⟨r571,hr571,hj⟩:=bs hj
    obtain rfl:=Zc hj
    exact (EP.v 4 (Zs (hc:=Zae N r558.1 r560.1 r571 hr571)) (EP.f (by show _=_;kernel_rfl)))
   clear hj
   rintro s hR
   obtain rfl:=hR
   refine tq (it h (fun hc573 h => ?_) (fun hc573 h => ?_))
   ·refine sq (rg Zb.f ?_)
    refine tq (rt ?_)
    refine br (tr ?_)
    refine tr (br ?_)
    refine br (tr ?_)
    refine tr (br ?_)
    refine br (tr ?_)
    obtain rfl:=Zc h
    exact ⟨_,rfl,rfl,ZC (by kernel_rfl)⟩
   refine sk (bn ?_)
   refine tq (kq ?_)
   refine rg Zb.f (tq ?_)
   refine Z5 ?_
   refine sq (rg Zb.f ?_)
   refine tq (sq ?_)
   refine ZaP (by kernel_rfl) ?_
   refine sk (tq ?_)
   refine kq (sq ?_)
   refine bk (sq ?_)
   refine rg Zb.f (tq ?_)
   refine sq ?_
   obtain ⟨e574,he574,h⟩:=bs h
   obtain ⟨r575,hr575,h⟩:=bs h
   refine rq (Zb.u 4 (Zo (ys:=[Zd false r2.x0,iv i3]) (h:=Zg Zf he574)) (Zb.u 0 (Zw (Zq (sz:=10) (off:=0) (cs:=[.int .i64 e574.Id,.int .i64 e574.Talker,.int .i64 e574.Listener,.int .i64 e574.Class,.int .i64 e574.Size,.int .i64 e574.Period,.int .i64 e574.Bucket.Burst,.int .i64 e574.Bucket.Rate,.int .i64 e574.Deadline,.sl 1 false (List.map (eSl 1 eI64) e574.Routes)]) (r:=.agg (Ze e574)) Zf he574)) (Zb.v 1 (Zs (hc:=Zap N r1 r505 e574 0 r575 hr575)) Zb.f))) (tq ?_)
   refine sq ?_
   obtain ⟨e576,he576,h⟩:=bs h
   obtain ⟨r577,hr577,h⟩:=bs h
   refine rq (Zb.u 4 (Zo (ys:=[Zd false r2.x0,iv i3]) (h:=Zg Zf he576)) (Zb.u 0 (Zw (Zq (sz:=10) (off:=0) (cs:=[.int .i64 e576.Id,.int .i64 e576.Talker,.int .i64 e576.Listener,.int .i64 e576.Class,.int .i64 e576.Size,.int .i64 e576.Period,.int .i64 e576.Bucket.Burst,.int .i64 e576.Bucket.Rate,.int .i64 e576.Deadline,.sl 1 false (List.map (eSl 1 eI64) e576.Routes)]) (r:=.agg (Ze e576)) Zf he576)) (Zb.v 1 (Zs (hc:=ZaO N r1 r505 e576 0 r577 hr577)) Zb.f))) (tq ?_)
   refine sq ?_
   obtain ⟨e578,he578,h⟩:=bs h
   obtain ⟨r579,hr579,h⟩:=bs h
   refine rq (Zb.u 4 (Zo (ys:=[Zd false r2.x0,iv i3]) (h:=Zg Zf he578)) (Zb.u 0 (Zw (Zq (sz:=10) (off:=0) (cs:=[.int .i64 e578.Id,.int .i64 e578.Talker,.int .i64 e578.Listener,.int .i64 e578.Class,.int .i64 e578.Size,.int .i64 e578.Period,.int .i64 e578.Bucket.Burst,.int .i64 e578.Bucket.Rate,.int .i64 e578.Deadline,.sl 1 false (List.map (eSl 1 eI64) e578.Routes)]) (r:=.agg (Ze e578)) Zf he578)) (Zb.v 1 (Zs (hc:=Zax N r1 r505 e578 0 r579 hr579)) Zb.f))) (tq ?_)
   refine sq ?_
   obtain ⟨e580,he580,h⟩:=bs h
   obtain ⟨r581,hr581,h⟩:=bs h
   refine rq (Zb.u 4 (Zo (ys:=[Zd false r2.x0,iv i3]) (h:=Zg Zf he580)) (Zb.u 0 (Zw (Zq (sz:=10) (off:=0) (cs:=[.int .i64 e580.Id,.int .i64 e580.Talker,.int .i64 e580.Listener,.int .i64 e580.Class,.int .i64 e580.Size,.int .i64 e580.Period,.int .i64 e580.Bucket.Burst,.int .i64 e580.Bucket.Rate,.int .i64 e580.Deadline,.sl 1 false (List.map (eSl 1 eI64) e580.Routes)]) (r:=.agg (Ze e580)) Zf he580)) (Zb.v 1 (Zs (hc:=ZaN N r1 r505 e580 0 r581 hr581)) Zb.f))) (tq ?_)
   refine sq ?_
   obtain ⟨j589,hj,h⟩:=bs h
   refine rgR (fun s=>s=⟨[(1,iv a1_),(2,.loc 2 0),(5,.loc 5 0),(7,Zd false r2.x0),(8,iv i3),(10,.loc 10 0),(26,.agg (ZD r2)),(27,iv 0),(48,.agg [iv a0_.Setup.Grid,iv a0_.Setup.Slack,iv a0_.Setup.Proc,iv a0_.Setup.Cap,iv r505.Grid,iv r505.Slack,iv r505.Proc,iv r505.Cap]),(49,iv 1),(53,.agg [iv a1_,iv 0,iv 1]),(54,iv 1),(119,bv j589)],[(2,(ZI a0_)),(5,(Za r1)),(10,(Zn r505))],[]⟩) ?_ ?_
   ·clear h
    rcases Zt hj with ⟨hc582,hj⟩ | ⟨hc583,hj⟩
    ·obtain rfl:=Zc hj
     exact (EP.u 2 (Zj (c:=(r575.2 != r577.2)) (h:=hc582)) (EP.f (by show _=_;kernel_rfl)))
    refine (EP.u 2 (Zj (c:=(r575.2 != r577.2)) (h:=hc583)) ?_)
    rcases Zt hj with ⟨hc584,hj⟩ | ⟨hc585,hj⟩
    ·obtain rfl:=Zc hj
     exact (EP.u 3 (Zj (c:=(r579.2 != r581.2)) (h:=hc584)) (EP.f (by show _=_;kernel_rfl)))
    refine (EP.u 3 (Zj (c:=(r579.2 != r581.2)) (h:=hc585)) ?_)
    rcases Zt hj with ⟨hc586,hj⟩ | ⟨hc587,hj⟩
    ·obtain rfl:=Zc hj
     exact (EP.u 4 (Zj (c:=(r579.1 != r581.1)) (h:=hc586)) (EP.f (by show _=_;kernel_rfl)))
    refine (EP.u 4 (Zj (c:=(r579.1 != r581.1)) (h:=hc587)) ?_)
    obtain ⟨r588,hr588,hj⟩:=bs hj
    obtain rfl:=Zc hj
    exact (EP.v 4 (Zs (hc:=Zae N r575.1 r577.1 r588 hr588)) (EP.f (by show _=_;kernel_rfl)))
   clear hj
   rintro s hR
   obtain rfl:=hR
   refine tq (it h (fun hc590 h => ?_) (fun hc590 h => ?_))
   ·refine sq (rg Zb.f ?_)
    refine tq (rt ?_)
    refine br (tr ?_)
    refine tr (br ?_)
    refine br (tr ?_)
    refine tr (br ?_)
    refine br (tr ?_)
    obtain rfl:=Zc h
    exact ⟨_,rfl,rfl,ZC (by kernel_rfl)⟩
   refine sk (bn ?_)
   refine tq (kq ?_)
   refine rg Zb.f (tq ?_)
   refine Z5 ?_
   refine sq (rg Zb.f ?_)
   refine tq (sq ?_)
   refine ZaP (by kernel_rfl) ?_
   refine sk (tq ?_)
   refine kq (sq ?_)
   refine bk (sq ?_)
   refine rg Zb.f (tq ?_)
   refine sq ?_
   obtain ⟨e591,he591,h⟩:=bs h
   obtain ⟨r592,hr592,h⟩:=bs h
   refine rq (Zb.u 4 (Zo (ys:=[Zd false r2.x0,iv i3]) (h:=Zg Zf he591)) (Zb.u 0 (Zw (Zq (sz:=10) (off:=0) (cs:=[.int .i64 e591.Id,.int .i64 e591.Talker,.int .i64 e591.Listener,.int .i64 e591.Class,.int .i64 e591.Size,.int .i64 e591.Period,.int .i64 e591.Bucket.Burst,.int .i64 e591.Bucket.Rate,.int .i64 e591.Deadline,.sl 1 false (List.map (eSl 1 eI64) e591.Routes)]) (r:=.agg (Ze e591)) Zf he591)) (Zb.v 1 (Zs (hc:=Zap N r1 r505 e591 1 r592 hr592)) Zb.f))) (tq ?_)
   refine sq ?_
   obtain ⟨e593,he593,h⟩:=bs h
   obtain ⟨r594,hr594,h⟩:=bs h
   refine rq (Zb.u 4 (Zo (ys:=[Zd false r2.x0,iv i3]) (h:=Zg Zf he593)) (Zb.u 0 (Zw (Zq (sz:=10) (off:=0) (cs:=[.int .i64 e593.Id,.int .i64 e593.Talker,.int .i64 e593.Listener,.int .i64 e593.Class,.int .i64 e593.Size,.int .i64 e593.Period,.int .i64 e593.Bucket.Burst,.int .i64 e593.Bucket.Rate,.int .i64 e593.Deadline,.sl 1 false (List.map (eSl 1 eI64) e593.Routes)]) (r:=.agg (Ze e593)) Zf he593)) (Zb.v 1 (Zs (hc:=ZaO N r1 r505 e593 1 r594 hr594)) Zb.f))) (tq ?_)
   refine sq ?_
   obtain ⟨e595,he595,h⟩:=bs h
   obtain ⟨r596,hr596,h⟩:=bs h
   refine rq (Zb.u 4 (Zo (ys:=[Zd false r2.x0,iv i3]) (h:=Zg Zf he595)) (Zb.u 0 (Zw (Zq (sz:=10) (off:=0) (cs:=[.int .i64 e595.Id,.int .i64 e595.Talker,.int .i64 e595.Listener,.int .i64 e595.Class,.int .i64 e595.Size,.int .i64 e595.Period,.int .i64 e595.Bucket.Burst,.int .i64 e595.Bucket.Rate,.int .i64 e595.Deadline,.sl 1 false (List.map (eSl 1 eI64) e595.Routes)]) (r:=.agg (Ze e595)) Zf he595)) (Zb.v 1 (Zs (hc:=Zax N r1 r505 e595 1 r596 hr596)) Zb.f))) (tq ?_)
   refine sq ?_
   obtain ⟨e597,he597,h⟩:=bs h
   obtain ⟨r598,hr598,h⟩:=bs h
   refine rq (Zb.u 4 (Zo (ys:=[Zd false r2.x0,iv i3]) (h:=Zg Zf he597)) (Zb.u 0 (Zw (Zq (sz:=10) (off:=0) (cs:=[.int .i64 e597.Id,.int .i64 e597.Talker,.int .i64 e597.Listener,.int .i64 e597.Class,.int .i64 e597.Size,.int .i64 e597.Period,.int .i64 e597.Bucket.Burst,.int .i64 e597.Bucket.Rate,.int .i64 e597.Deadline,.sl 1 false (List.map (eSl 1 eI64) e597.Routes)]) (r:=.agg (Ze e597)) Zf he597)) (Zb.v 1 (Zs (hc:=ZaN N r1 r505 e597 1 r598 hr598)) Zb.f))) (tq ?_)
   refine sq ?_
   obtain ⟨j606,hj,h⟩:=bs h
   refine rgR (fun s=>s=⟨[(1,iv a1_),(2,.loc 2 0),(5,.loc 5 0),(7,Zd false r2.x0),(8,iv i3),(10,.loc 10 0),(26,.agg (ZD r2)),(27,iv 0),(48,.agg [iv a0_.Setup.Grid,iv a0_.Setup.Slack,iv a0_.Setup.Proc,iv a0_.Setup.Cap,iv r505.Grid,iv r505.Slack,iv r505.Proc,iv r505.Cap]),(49,iv 1),(53,.agg [iv a1_,iv 0,iv 1]),(54,iv 2),(119,bv j606)],[(2,(ZI a0_)),(5,(Za r1)),(10,(Zn r505))],[]⟩) ?_ ?_
   ·clear h
    rcases Zt hj with ⟨hc599,hj⟩ | ⟨hc600,hj⟩
    ·obtain rfl:=Zc hj
     exact (EP.u 2 (Zj (c:=(r592.2 != r594.2)) (h:=hc599)) (EP.f (by show _=_;kernel_rfl)))
    refine (EP.u 2 (Zj (c:=(r592.2 != r594.2)) (h:=hc600)) ?_)
    rcases Zt hj with ⟨hc601,hj⟩ | ⟨hc602,hj⟩
    ·obtain rfl:=Zc hj
     exact (EP.u 3 (Zj (c:=(r596.2 != r598.2)) (h:=hc601)) (EP.f (by show _=_;kernel_rfl)))
    refine (EP.u 3 (Zj (c:=(r596.2 != r598.2)) (h:=hc602)) ?_)
    rcases Zt hj with ⟨hc603,hj⟩ | ⟨hc604,hj⟩
    ·obtain rfl:=Zc hj
     exact (EP.u 4 (Zj (c:=(r596.1 != r598.1)) (h:=hc603)) (EP.f (by show _=_;kernel_rfl)))
    refine (EP.u 4 (Zj (c:=(r596.1 != r598.1)) (h:=hc604)) ?_)
    obtain ⟨r605,hr605,hj⟩:=bs hj
    obtain rfl:=Zc hj
    exact (EP.v 4 (Zs (hc:=Zae N r592.1 r594.1 r605 hr605)) (EP.f (by show _=_;kernel_rfl)))
   clear hj
   rintro s hR
   obtain rfl:=hR
   refine tq (it h (fun hc607 h => ?_) (fun hc607 h => ?_))
   ·refine sq (rg Zb.f ?_)
    refine tq (rt ?_)
    refine br (tr ?_)
    refine tr (br ?_)
    refine br (tr ?_)
    refine tr (br ?_)
    refine br (tr ?_)
    obtain rfl:=Zc h
    exact ⟨_,rfl,rfl,ZC (by kernel_rfl)⟩
   refine sk (bn ?_)
   refine tq (kq ?_)
   refine rg Zb.f (tq ?_)
   refine Z5 ?_
   refine sq (rg Zb.f ?_)
   refine tq (sq ?_)
   refine Zdv (by kernel_rfl) ?_
   refine kq (xq ?_)
   refine tx (tx ?_)
   refine bx (bn ?_)
   refine tq (rg Zb.f ?_)
   refine tq (Z5 ?_)
   refine sq (rg Zb.f ?_)
   refine tq (sq ?_)
   refine Zdv (by kernel_rfl) ?_
   refine kq (xq ?_)
   refine tx (tx ?_)
   refine bx (bn ?_)
   refine tq (rg Zb.f ?_)
   obtain rfl:=Zc h
   exact ⟨_,rfl,(by show _=_;kernel_rfl)⟩
  refine kq (xq ?_)
  refine tx ?_
  obtain rfl:=Zc h
  exact ⟨_,rfl,rfl,(by show _=_;kernel_rfl)⟩
 rintro e s hq
 rcases o608 with p609 | p1219
 ·dsimp only at h hq
  obtain ⟨rfl,hR⟩:=hq
  obtain rfl:=hR
  refine bx (bn ?_)
  refine tq (rg Zb.f ?_)
  refine tq (Z5 ?_)
  refine sq (rg Zb.f ?_)
  refine tq (sq ?_)
  refine ZaP (by kernel_rfl) ?_
  refine sk (tq ?_)
  refine kq (sq ?_)
  refine bk (sq ?_)
  refine rg Zb.f (tq ?_)
  refine sq (rg Zb.f ?_)
  refine tq (bk ?_)
  obtain ⟨o1215,ho1215,h⟩:=bs h
  refine Z8 ((ZT (fun (x:Int) s=>s=⟨[(1,iv a1_),(2,.loc 2 0),(5,.loc 5 0),(7,Zd false r2.x1),(8,iv x),(26,.agg (ZD r2)),(27,iv 1)],[(2,(ZI a0_)),(5,(Za r1))],[]⟩) (fun x:Int=>ZaG N a0_ a1_ r1 r2 x) (fun (p:(Unit) ⊕ (Bool)) e s=>match p with | (.inl p)=>e = .exit 2∧(s=⟨[(1,iv a1_),(2,.loc 2 0),(5,.loc 5 0),(26,.agg (ZD r2)),(27,iv 1)],[(2,(ZI a0_)),(5,(Za r1))],[]⟩) | (.inr p)=>e = .ret∧∃ xs,resL s i3.res=some xs∧Zbr xs=bv p) ?_ N _ o1215 _ ho1215 (by show _=_;kernel_rfl)).mono ?_)
  ·clear h ho1215
   rintro i610 o s h hR
   obtain rfl:=hR
   replace h:ZaG N a0_ a1_ r1 r2 i610=some o:=h
   unfold ZaG at h
   refine sq (sq ?_)
   refine rg (Zb.u 2 (Zo (ys:=[Zd false r2.x1]) (h:=ZB Zf)) Zb.f) (tq ?_)
   refine it h (fun hc1111 h => ?_) (fun hc1111 h => ?_)
   ·refine sk (tq ?_)
    refine kq (sq ?_)
    refine bk (sq ?_)
    obtain ⟨r1112,hr1112,h⟩:=bs h
    refine rq (Zb.u 11 (Zaw (hc:=ZfT N a0_.U.x0 a0_.U.x1 a0_.U.x2 r1112 hr1112)) Zb.f) (tq ?_)
    refine bk (Zdu 18 ?_)
    refine Z5 ?_
    refine sq (rg Zb.f ?_)
    refine tq (sq ?_)
    refine ZaP (by kernel_rfl) ?_
    refine sk (tq ?_)
    refine kq (sq ?_)
    refine bk (sq ?_)
    refine rg Zb.f (tq ?_)
    refine sq (rg Zb.f ?_)
    refine tq (bk ?_)
    refine Zdu 18 ?_
    refine Z5 ?_
    refine sq (rg Zb.f ?_)
    refine tq (sq ?_)
    refine ZaP (by kernel_rfl) ?_
    refine sk (tq ?_)
    refine kq (sq ?_)
    refine bk (sq ?_)
    refine rg Zb.f (tq ?_)
    refine sq ?_
    obtain ⟨e1113,he1113,h⟩:=bs h
    obtain ⟨r1114,hr1114,h⟩:=bs h
    refine rq (Zb.u 4 (Zo (ys:=[Zd false r2.x1,iv i610]) (h:=Zg Zf he1113)) (Zb.u 0 (Zw (Zq (sz:=10) (off:=0) (cs:=[.int .i64 e1113.Id,.int .i64 e1113.Talker,.int .i64 e1113.Listener,.int .i64 e1113.Class,.int .i64 e1113.Size,.int .i64 e1113.Period,.int .i64 e1113.Bucket.Burst,.int .i64 e1113.Bucket.Rate,.int .i64 e1113.Deadline,.sl 1 false (List.map (eSl 1 eI64) e1113.Routes)]) (r:=.agg (Ze e1113)) Zf he1113)) (Zb.v 1 (Zs (hc:=Zap N r1 a0_.Setup e1113 a1_ r1114 hr1114)) Zb.f))) (tq ?_)
    refine sq ?_
    obtain ⟨e1115,he1115,h⟩:=bs h
    obtain ⟨r1116,hr1116,h⟩:=bs h
    refine rq (Zb.u 4 (Zo (ys:=[Zd false r2.x1,iv i610]) (h:=Zg Zf he1115)) (Zb.u 0 (Zw (Zq (sz:=10) (off:=0) (cs:=[.int .i64 e1115.Id,.int .i64 e1115.Talker,.int .i64 e1115.Listener,.int .i64 e1115.Class,.int .i64 e1115.Size,.int .i64 e1115.Period,.int .i64 e1115.Bucket.Burst,.int .i64 e1115.Bucket.Rate,.int .i64 e1115.Deadline,.sl 1 false (List.map (eSl 1 eI64) e1115.Routes)]) (r:=.agg (Ze e1115)) Zf he1115)) (Zb.v 1 (Zs (hc:=ZaO N r1 a0_.Setup e1115 a1_ r1116 hr1116)) Zb.f))) (tq ?_)
    refine sq ?_
    obtain ⟨e1117,he1117,h⟩:=bs h
    obtain ⟨r1118,hr1118,h⟩:=bs h
    refine rq (Zb.u 4 (Zo (ys:=[Zd false r2.x1,iv i610]) (h:=Zg Zf he1117)) (Zb.u 0 (Zw (Zq (sz:=10) (off:=0) (cs:=[.int .i64 e1117.Id,.int .i64 e1117.Talker,.int .i64 e1117.Listener,.int .i64 e1117.Class,.int .i64 e1117.Size,.int .i64 e1117.Period,.int .i64 e1117.Bucket.Burst,.int .i64 e1117.Bucket.Rate,.int .i64 e1117.Deadline,.sl 1 false (List.map (eSl 1 eI64) e1117.Routes)]) (r:=.agg (Ze e1117)) Zf he1117)) (Zb.v 1 (Zs (hc:=Zax N r1 a0_.Setup e1117 a1_ r1118 hr1118)) Zb.f))) (tq ?_)
    refine sq ?_
    obtain ⟨e1119,he1119,h⟩:=bs h
    obtain ⟨r1120,hr1120,h⟩:=bs h
    refine rq (Zb.u 4 (Zo (ys:=[Zd false r2.x1,iv i610]) (h:=Zg Zf he1119)) (Zb.u 0 (Zw (Zq (sz:=10) (off:=0) (cs:=[.int .i64 e1119.Id,.int .i64 e1119.Talker,.int .i64 e1119.Listener,.int .i64 e1119.Class,.int .i64 e1119.Size,.int .i64 e1119.Period,.int .i64 e1119.Bucket.Burst,.int .i64 e1119.Bucket.Rate,.int .i64 e1119.Deadline,.sl 1 false (List.map (eSl 1 eI64) e1119.Routes)]) (r:=.agg (Ze e1119)) Zf he1119)) (Zb.v 1 (Zs (hc:=ZaN N r1 a0_.Setup e1119 a1_ r1120 hr1120)) Zb.f))) (tq ?_)
    refine sq ?_
    obtain ⟨j1128,hj,h⟩:=bs h
    refine rgR (fun s=>s=⟨[(1,iv a1_),(2,.loc 2 0),(5,.loc 5 0),(7,Zd false r2.x1),(8,iv i610),(10,.loc 10 0),(26,.agg (ZD r2)),(27,iv 1),(48,.agg [iv a0_.Setup.Grid,iv a0_.Setup.Slack,iv a0_.Setup.Proc,iv a0_.Setup.Cap,iv r1112.Grid,iv r1112.Slack,iv r1112.Proc,iv r1112.Cap]),(49,iv 0),(53,.agg [iv a1_,iv 0,iv 1]),(54,iv 0),(119,bv j1128)],[(2,(ZI a0_)),(5,(Za r1)),(10,(Zn a0_.Setup))],[]⟩) ?_ ?_
    ·clear h
     rcases Zt hj with ⟨hc1121,hj⟩ | ⟨hc1122,hj⟩
     ·obtain rfl:=Zc hj
      exact (EP.u 2 (Zj (c:=(r1114.2 != r1116.2)) (h:=hc1121)) (EP.f (by show _=_;kernel_rfl)))
     refine (EP.u 2 (Zj (c:=(r1114.2 != r1116.2)) (h:=hc1122)) ?_)
     rcases Zt hj with ⟨hc1123,hj⟩ | ⟨hc1124,hj⟩
     ·obtain rfl:=Zc hj
      exact (EP.u 3 (Zj (c:=(r1118.2 != r1120.2)) (h:=hc1123)) (EP.f (by show _=_;kernel_rfl)))
     refine (EP.u 3 (Zj (c:=(r1118.2 != r1120.2)) (h:=hc1124)) ?_)
     rcases Zt hj with ⟨hc1125,hj⟩ | ⟨hc1126,hj⟩
     ·obtain rfl:=Zc hj
      exact (EP.u 4 (Zj (c:=(r1118.1 != r1120.1)) (h:=hc1125)) (EP.f (by show _=_;kernel_rfl)))
     refine (EP.u 4 (Zj (c:=(r1118.1 != r1120.1)) (h:=hc1126)) ?_)
     obtain ⟨r1127,hr1127,hj⟩:=bs hj
     obtain rfl:=Zc hj
     exact (EP.v 4 (Zs (hc:=Zae N r1114.1 r1116.1 r1127 hr1127)) (EP.f (by show _=_;kernel_rfl)))
    clear hj
    rintro s hR
    obtain rfl:=hR
    refine tq (it h (fun hc1129 h => ?_) (fun hc1129 h => ?_))
    ·refine sq (rg Zb.f ?_)
     refine tq (rt ?_)
     refine br (tr ?_)
     refine tr (br ?_)
     refine br (tr ?_)
     refine tr (br ?_)
     refine br (tr ?_)
     obtain rfl:=Zc h
     exact ⟨_,rfl,rfl,ZC (by kernel_rfl)⟩
    refine sk (bn ?_)
    refine tq (kq ?_)
    refine rg Zb.f (tq ?_)
    refine Z5 ?_
    refine sq (rg Zb.f ?_)
    refine tq (sq ?_)
    refine ZaP (by kernel_rfl) ?_
    refine sk (tq ?_)
    refine kq (sq ?_)
    refine bk (sq ?_)
    refine rg Zb.f (tq ?_)
    refine sq ?_
    obtain ⟨e1130,he1130,h⟩:=bs h
    obtain ⟨r1131,hr1131,h⟩:=bs h
    refine rq (Zb.u 4 (Zo (ys:=[Zd false r2.x1,iv i610]) (h:=Zg Zf he1130)) (Zb.u 0 (Zw (Zq (sz:=10) (off:=0) (cs:=[.int .i64 e1130.Id,.int .i64 e1130.Talker,.int .i64 e1130.Listener,.int .i64 e1130.Class,.int .i64 e1130.Size,.int .i64 e1130.Period,.int .i64 e1130.Bucket.Burst,.int .i64 e1130.Bucket.Rate,.int .i64 e1130.Deadline,.sl 1 false (List.map (eSl 1 eI64) e1130.Routes)]) (r:=.agg (Ze e1130)) Zf he1130)) (Zb.v 1 (Zs (hc:=Zap N r1 a0_.Setup e1130 0 r1131 hr1131)) Zb.f))) (tq ?_)
    refine sq ?_
    obtain ⟨e1132,he1132,h⟩:=bs h
    obtain ⟨r1133,hr1133,h⟩:=bs h
    refine rq (Zb.u 4 (Zo (ys:=[Zd false r2.x1,iv i610]) (h:=Zg Zf he1132)) (Zb.u 0 (Zw (Zq (sz:=10) (off:=0) (cs:=[.int .i64 e1132.Id,.int .i64 e1132.Talker,.int .i64 e1132.Listener,.int .i64 e1132.Class,.int .i64 e1132.Size,.int .i64 e1132.Period,.int .i64 e1132.Bucket.Burst,.int .i64 e1132.Bucket.Rate,.int .i64 e1132.Deadline,.sl 1 false (List.map (eSl 1 eI64) e1132.Routes)]) (r:=.agg (Ze e1132)) Zf he1132)) (Zb.v 1 (Zs (hc:=ZaO N r1 a0_.Setup e1132 0 r1133 hr1133)) Zb.f))) (tq ?_)
    refine sq ?_
    obtain ⟨e1134,he1134,h⟩:=bs h
    obtain ⟨r1135,hr1135,h⟩:=bs h
    refine rq (Zb.u 4 (Zo (ys:=[Zd false r2.x1,iv i610]) (h:=Zg Zf he1134)) (Zb.u 0 (Zw (Zq (sz:=10) (off:=0) (cs:=[.int .i64 e1134.Id,.int .i64 e1134.Talker,.int .i64 e1134.Listener,.int .i64 e1134.Class,.int .i64 e1134.Size,.int .i64 e1134.Period,.int .i64 e1134.Bucket.Burst,.int .i64 e1134.Bucket.Rate,.int .i64 e1134.Deadline,.sl 1 false (List.map (eSl 1 eI64) e1134.Routes)]) (r:=.agg (Ze e1134)) Zf he1134)) (Zb.v 1 (Zs (hc:=Zax N r1 a0_.Setup e1134 0 r1135 hr1135)) Zb.f))) (tq ?_)
    refine sq ?_
    obtain ⟨e1136,he1136,h⟩:=bs h
    obtain ⟨r1137,hr1137,h⟩:=bs h
    refine rq (Zb.u 4 (Zo (ys:=[Zd false r2.x1,iv i610]) (h:=Zg Zf he1136)) (Zb.u 0 (Zw (Zq (sz:=10) (off:=0) (cs:=[.int .i64 e1136.Id,.int .i64 e1136.Talker,.int .i64 e1136.Listener,.int .i64 e1136.Class,.int .i64 e1136.Size,.int .i64 e1136.Period,.int .i64 e1136.Bucket.Burst,.int .i64 e1136.Bucket.Rate,.int .i64 e1136.Deadline,.sl 1 false (List.map (eSl 1 eI64) e1136.Routes)]) (r:=.agg (Ze e1136)) Zf he1136)) (Zb.v 1 (Zs (hc:=ZaN N r1 a0_.Setup e1136 0 r1137 hr1137)) Zb.f))) (tq ?_)
    refine sq ?_
    obtain ⟨j1145,hj,h⟩:=bs h
    refine rgR (fun s=>s=⟨[(1,iv a1_),(2,.loc 2 0),(5,.loc 5 0),(7,Zd false r2.x1),(8,iv i610),(10,.loc 10 0),(26,.agg (ZD r2)),(27,iv 1),(48,.agg [iv a0_.Setup.Grid,iv a0_.Setup.Slack,iv a0_.Setup.Proc,iv a0_.Setup.Cap,iv r1112.Grid,iv r1112.Slack,iv r1112.Proc,iv r1112.Cap]),(49,iv 0),(53,.agg [iv a1_,iv 0,iv 1]),(54,iv 1),(119,bv j1145)],[(2,(ZI a0_)),(5,(Za r1)),(10,(Zn a0_.Setup))],[]⟩) ?_ ?_
    ·clear h
     rcases Zt hj with ⟨hc1138,hj⟩ | ⟨hc1139,hj⟩
     ·obtain rfl:=Zc hj
      exact (EP.u 2 (Zj (c:=(r1131.2 != r1133.2)) (h:=hc1138)) (EP.f (by show _=_;kernel_rfl)))
     refine (EP.u 2 (Zj (c:=(r1131.2 != r1133.2)) (h:=hc1139)) ?_)
     rcases Zt hj with ⟨hc1140,hj⟩ | ⟨hc1141,hj⟩
     ·obtain rfl:=Zc hj
      exact (EP.u 3 (Zj (c:=(r1135.2 != r1137.2)) (h:=hc1140)) (EP.f (by show _=_;kernel_rfl)))
     refine (EP.u 3 (Zj (c:=(r1135.2 != r1137.2)) (h:=hc1141)) ?_)
     rcases Zt hj with ⟨hc1142,hj⟩ | ⟨hc1143,hj⟩
     ·obtain rfl:=Zc hj
      exact (EP.u 4 (Zj (c:=(r1135.1 != r1137.1)) (h:=hc1142)) (EP.f (by show _=_;kernel_rfl)))
     refine (EP.u 4 (Zj (c:=(r1135.1 != r1137.1)) (h:=hc1143)) ?_)
     obtain ⟨r1144,hr1144,hj⟩:=bs hj
     obtain rfl:=Zc hj
     exact (EP.v 4 (Zs (hc:=Zae N r1131.1 r1133.1 r1144 hr1144)) (EP.f (by show _=_;kernel_rfl)))
    clear hj
    rintro s hR
    obtain rfl:=hR
    refine tq (it h (fun hc1146 h => ?_) (fun hc1146 h => ?_))
    ·refine sq (rg Zb.f ?_)
     refine tq (rt ?_)
     refine br (tr ?_)
     refine tr (br ?_)
     refine br (tr ?_)
     refine tr (br ?_)
     refine br (tr ?_)
     obtain rfl:=Zc h
     exact ⟨_,rfl,rfl,ZC (by kernel_rfl)⟩
    refine sk (bn ?_)
    refine tq (kq ?_)
    refine rg Zb.f (tq ?_)
    refine Z5 ?_
    refine sq (rg Zb.f ?_)
    refine tq (sq ?_)
    refine ZaP (by kernel_rfl) ?_
    refine sk (tq ?_)
    refine kq (sq ?_)
    refine bk (sq ?_)
    refine rg Zb.f (tq ?_)
    refine sq ?_
    obtain ⟨e1147,he1147,h⟩:=bs h
    obtain ⟨r1148,hr1148,h⟩:=bs h
    refine rq (Zb.u 4 (Zo (ys:=[Zd false r2.x1,iv i610]) (h:=Zg Zf he1147)) (Zb.u 0 (Zw (Zq (sz:=10) (off:=0) (cs:=[.int .i64 e1147.Id,.int .i64 e1147.Talker,.int .i64 e1147.Listener,.int .i64 e1147.Class,.int .i64 e1147.Size,.int .i64 e1147.Period,.int .i64 e1147.Bucket.Burst,.int .i64 e1147.Bucket.Rate,.int .i64 e1147.Deadline,.sl 1 false (List.map (eSl 1 eI64) e1147.Routes)]) (r:=.agg (Ze e1147)) Zf he1147)) (Zb.v 1 (Zs (hc:=Zap N r1 a0_.Setup e1147 1 r1148 hr1148)) Zb.f))) (tq ?_)
    refine sq ?_
    obtain ⟨e1149,he1149,h⟩:=bs h
    obtain ⟨r1150,hr1150,h⟩:=bs h
    refine rq (Zb.u 4 (Zo (ys:=[Zd false r2.x1,iv i610]) (h:=Zg Zf he1149)) (Zb.u 0 (Zw (Zq (sz:=10) (off:=0) (cs:=[.int .i64 e1149.Id,.int .i64 e1149.Talker,.int .i64 e1149.Listener,.int .i64 e1149.Class,.int .i64 e1149.Size,.int .i64 e1149.Period,.int .i64 e1149.Bucket.Burst,.int .i64 e1149.Bucket.Rate,.int .i64 e1149.Deadline,.sl 1 false (List.map (eSl 1 eI64) e1149.Routes)]) (r:=.agg (Ze e1149)) Zf he1149)) (Zb.v 1 (Zs (hc:=ZaO N r1 a0_.Setup e1149 1 r1150 hr1150)) Zb.f))) (tq ?_)
    refine sq ?_
    obtain ⟨e1151,he1151,h⟩:=bs h
    obtain ⟨r1152,hr1152,h⟩:=bs h
    refine rq (Zb.u 4 (Zo (ys:=[Zd false r2.x1,iv i610]) (h:=Zg Zf he1151)) (Zb.u 0 (Zw (Zq (sz:=10) (off:=0) (cs:=[.int .i64 e1151.Id,.int .i64 e1151.Talker,.int .i64 e1151.Listener,.int .i64 e1151.Class,.int .i64 e1151.Size,.int .i64 e1151.Period,.int .i64 e1151.Bucket.Burst,.int .i64 e1151.Bucket.Rate,.int .i64 e1151.Deadline,.sl 1 false (List.map (eSl 1 eI64) e1151.Routes)]) (r:=.agg (Ze e1151)) Zf he1151)) (Zb.v 1 (Zs (hc:=Zax N r1 a0_.Setup e1151 1 r1152 hr1152)) Zb.f))) (tq ?_)
    refine sq ?_
    obtain ⟨e1153,he1153,h⟩:=bs h
    obtain ⟨r1154,hr1154,h⟩:=bs h
    refine rq (Zb.u 4 (Zo (ys:=[Zd false r2.x1,iv i610]) (h:=Zg Zf he1153)) (Zb.u 0 (Zw (Zq (sz:=10) (off:=0) (cs:=[.int .i64 e1153.Id,.int .i64 e1153.Talker,.int .i64 e1153.Listener,.int .i64 e1153.Class,.int .i64 e1153.Size,.int .i64 e1153.Period,.int .i64 e1153.Bucket.Burst,.int .i64 e1153.Bucket.Rate,.int .i64 e1153.Deadline,.sl 1 false (List.map (eSl 1 eI64) e1153.Routes)]) (r:=.agg (Ze e1153)) Zf he1153)) (Zb.v 1 (Zs (hc:=ZaN N r1 a0_.Setup e1153 1 r1154 hr1154)) Zb.f))) (tq ?_)
    refine sq ?_
    obtain ⟨j1162,hj,h⟩:=bs h
    refine rgR (fun s=>s=⟨[(1,iv a1_),(2,.loc 2 0),(5,.loc 5 0),(7,Zd false r2.x1),(8,iv i610),(10,.loc 10 0),(26,.agg (ZD r2)),(27,iv 1),(48,.agg [iv a0_.Setup.Grid,iv a0_.Setup.Slack,iv a0_.Setup.Proc,iv a0_.Setup.Cap,iv r1112.Grid,iv r1112.Slack,iv r1112.Proc,iv r1112.Cap]),(49,iv 0),(53,.agg [iv a1_,iv 0,iv 1]),(54,iv 2),(119,bv j1162)],[(2,(ZI a0_)),(5,(Za r1)),(10,(Zn a0_.Setup))],[]⟩) ?_ ?_
    ·clear h
     rcases Zt hj with ⟨hc1155,hj⟩ | ⟨hc1156,hj⟩
     ·obtain rfl:=Zc hj
      exact (EP.u 2 (Zj (c:=(r1148.2 != r1150.2)) (h:=hc1155)) (EP.f (by show _=_;kernel_rfl)))
     refine (EP.u 2 (Zj (c:=(r1148.2 != r1150.2)) (h:=hc1156)) ?_)
     rcases Zt hj with ⟨hc1157,hj⟩ | ⟨hc1158,hj⟩
     ·obtain rfl:=Zc hj
      exact (EP.u 3 (Zj (c:=(r1152.2 != r1154.2)) (h:=hc1157)) (EP.f (by show _=_;kernel_rfl)))
     refine (EP.u 3 (Zj (c:=(r1152.2 != r1154.2)) (h:=hc1158)) ?_)
     rcases Zt hj with ⟨hc1159,hj⟩ | ⟨hc1160,hj⟩
     ·obtain rfl:=Zc hj
      exact (EP.u 4 (Zj (c:=(r1152.1 != r1154.1)) (h:=hc1159)) (EP.f (by show _=_;kernel_rfl)))
     refine (EP.u 4 (Zj (c:=(r1152.1 != r1154.1)) (h:=hc1160)) ?_)
     obtain ⟨r1161,hr1161,hj⟩:=bs hj
     obtain rfl:=Zc hj
     exact (EP.v 4 (Zs (hc:=Zae N r1148.1 r1150.1 r1161 hr1161)) (EP.f (by show _=_;kernel_rfl)))
    clear hj
    rintro s hR
    obtain rfl:=hR
    refine tq (it h (fun hc1163 h => ?_) (fun hc1163 h => ?_))
    ·refine sq (rg Zb.f ?_)
     refine tq (rt ?_)
     refine br (tr ?_)
     refine tr (br ?_)
     refine br (tr ?_)
     refine tr (br ?_)
     refine br (tr ?_)
     obtain rfl:=Zc h
     exact ⟨_,rfl,rfl,ZC (by kernel_rfl)⟩
    refine sk (bn ?_)
    refine tq (kq ?_)
    refine rg Zb.f (tq ?_)
    refine Z5 ?_
    refine sq (rg Zb.f ?_)
    refine tq (sq ?_)
    refine Zdv (by kernel_rfl) ?_
    refine kq (xq ?_)
    refine tx (tx ?_)
    refine bx (bn ?_)
    refine tq (rg Zb.f ?_)
    refine tq (Z5 ?_)
    refine sq (rg Zb.f ?_)
    refine tq (sq ?_)
    refine ZaP (by kernel_rfl) ?_
    refine sk (tq ?_)
    refine kq (sq ?_)
    refine bk (sq ?_)
    refine rg Zb.f (tq ?_)
    refine sq (rg Zb.f ?_)
    refine tq (bk ?_)
    refine Zdu 18 ?_
    refine Z5 ?_
    refine sq (rg Zb.f ?_)
    refine tq (sq ?_)
    refine ZaP (by kernel_rfl) ?_
    refine sk (tq ?_)
    refine kq (sq ?_)
    refine bk (sq ?_)
    refine rg Zb.f (tq ?_)
    refine sq ?_
    obtain ⟨e1164,he1164,h⟩:=bs h
    obtain ⟨r1165,hr1165,h⟩:=bs h
    refine rq (Zb.u 4 (Zo (ys:=[Zd false r2.x1,iv i610]) (h:=Zg Zf he1164)) (Zb.u 0 (Zw (Zq (sz:=10) (off:=0) (cs:=[.int .i64 e1164.Id,.int .i64 e1164.Talker,.int .i64 e1164.Listener,.int .i64 e1164.Class,.int .i64 e1164.Size,.int .i64 e1164.Period,.int .i64 e1164.Bucket.Burst,.int .i64 e1164.Bucket.Rate,.int .i64 e1164.Deadline,.sl 1 false (List.map (eSl 1 eI64) e1164.Routes)]) (r:=.agg (Ze e1164)) Zf he1164)) (Zb.v 1 (Zs (hc:=Zap N r1 r1112 e1164 a1_ r1165 hr1165)) Zb.f))) (tq ?_)
    refine sq ?_
    obtain ⟨e1166,he1166,h⟩:=bs h
    obtain ⟨r1167,hr1167,h⟩:=bs h
    refine rq (Zb.u 4 (Zo (ys:=[Zd false r2.x1,iv i610]) (h:=Zg Zf he1166)) (Zb.u 0 (Zw (Zq (sz:=10) (off:=0) (cs:=[.int .i64 e1166.Id,.int .i64 e1166.Talker,.int .i64 e1166.Listener,.int .i64 e1166.Class,.int .i64 e1166.Size,.int .i64 e1166.Period,.int .i64 e1166.Bucket.Burst,.int .i64 e1166.Bucket.Rate,.int .i64 e1166.Deadline,.sl 1 false (List.map (eSl 1 eI64) e1166.Routes)]) (r:=.agg (Ze e1166)) Zf he1166)) (Zb.v 1 (Zs (hc:=ZaO N r1 r1112 e1166 a1_ r1167 hr1167)) Zb.f))) (tq ?_)
    refine sq ?_
    obtain ⟨e1168,he1168,h⟩:=bs h
    obtain ⟨r1169,hr1169,h⟩:=bs h
    refine rq (Zb.u 4 (Zo (ys:=[Zd false r2.x1,iv i610]) (h:=Zg Zf he1168)) (Zb.u 0 (Zw (Zq (sz:=10) (off:=0) (cs:=[.int .i64 e1168.Id,.int .i64 e1168.Talker,.int .i64 e1168.Listener,.int .i64 e1168.Class,.int .i64 e1168.Size,.int .i64 e1168.Period,.int .i64 e1168.Bucket.Burst,.int .i64 e1168.Bucket.Rate,.int .i64 e1168.Deadline,.sl 1 false (List.map (eSl 1 eI64) e1168.Routes)]) (r:=.agg (Ze e1168)) Zf he1168)) (Zb.v 1 (Zs (hc:=Zax N r1 r1112 e1168 a1_ r1169 hr1169)) Zb.f))) (tq ?_)
    refine sq ?_
    obtain ⟨e1170,he1170,h⟩:=bs h
    obtain ⟨r1171,hr1171,h⟩:=bs h
    refine rq (Zb.u 4 (Zo (ys:=[Zd false r2.x1,iv i610]) (h:=Zg Zf he1170)) (Zb.u 0 (Zw (Zq (sz:=10) (off:=0) (cs:=[.int .i64 e1170.Id,.int .i64 e1170.Talker,.int .i64 e1170.Listener,.int .i64 e1170.Class,.int .i64 e1170.Size,.int .i64 e1170.Period,.int .i64 e1170.Bucket.Burst,.int .i64 e1170.Bucket.Rate,.int .i64 e1170.Deadline,.sl 1 false (List.map (eSl 1 eI64) e1170.Routes)]) (r:=.agg (Ze e1170)) Zf he1170)) (Zb.v 1 (Zs (hc:=ZaN N r1 r1112 e1170 a1_ r1171 hr1171)) Zb.f))) (tq ?_)
    refine sq ?_
    obtain ⟨j1179,hj,h⟩:=bs h
    refine rgR (fun s=>s=⟨[(1,iv a1_),(2,.loc 2 0),(5,.loc 5 0),(7,Zd false r2.x1),(8,iv i610),(10,.loc 10 0),(26,.agg (ZD r2)),(27,iv 1),(48,.agg [iv a0_.Setup.Grid,iv a0_.Setup.Slack,iv a0_.Setup.Proc,iv a0_.Setup.Cap,iv r1112.Grid,iv r1112.Slack,iv r1112.Proc,iv r1112.Cap]),(49,iv 1),(53,.agg [iv a1_,iv 0,iv 1]),(54,iv 0),(119,bv j1179)],[(2,(ZI a0_)),(5,(Za r1)),(10,(Zn r1112))],[]⟩) ?_ ?_
    ·clear h
     rcases Zt hj with ⟨hc1172,hj⟩ | ⟨hc1173,hj⟩
     ·obtain rfl:=Zc hj
      exact (EP.u 2 (Zj (c:=(r1165.2 != r1167.2)) (h:=hc1172)) (EP.f (by show _=_;kernel_rfl)))
     refine (EP.u 2 (Zj (c:=(r1165.2 != r1167.2)) (h:=hc1173)) ?_)
     rcases Zt hj with ⟨hc1174,hj⟩ | ⟨hc1175,hj⟩
     ·obtain rfl:=Zc hj
      exact (EP.u 3 (Zj (c:=(r1169.2 != r1171.2)) (h:=hc1174)) (EP.f (by show _=_;kernel_rfl)))
     refine (EP.u 3 (Zj (c:=(r1169.2 != r1171.2)) (h:=hc1175)) ?_)
     rcases Zt hj with ⟨hc1176,hj⟩ | ⟨hc1177,hj⟩
     ·obtain rfl:=Zc hj
      exact (EP.u 4 (Zj (c:=(r1169.1 != r1171.1)) (h:=hc1176)) (EP.f (by show _=_;kernel_rfl)))
     refine (EP.u 4 (Zj (c:=(r1169.1 != r1171.1)) (h:=hc1177)) ?_)
     obtain ⟨r1178,hr1178,hj⟩:=bs hj
     obtain rfl:=Zc hj
     exact (EP.v 4 (Zs (hc:=Zae N r1165.1 r1167.1 r1178 hr1178)) (EP.f (by show _=_;kernel_rfl)))
    clear hj
    rintro s hR
    obtain rfl:=hR
    refine tq (it h (fun hc1180 h => ?_) (fun hc1180 h => ?_))
    ·refine sq (rg Zb.f ?_)
     refine tq (rt ?_)
     refine br (tr ?_)
     refine tr (br ?_)
     refine br (tr ?_)
     refine tr (br ?_)
     refine br (tr ?_)
     obtain rfl:=Zc h
     exact ⟨_,rfl,rfl,ZC (by kernel_rfl)⟩
    refine sk (bn ?_)
    refine tq (kq ?_)
    refine rg Zb.f (tq ?_)
    refine Z5 ?_
    refine sq (rg Zb.f ?_)
    refine tq (sq ?_)
    refine ZaP (by kernel_rfl) ?_
    refine sk (tq ?_)
    refine kq (sq ?_)
    refine bk (sq ?_)
    refine rg Zb.f (tq ?_)
    refine sq ?_
    obtain ⟨e1181,he1181,h⟩:=bs h
    obtain ⟨r1182,hr1182,h⟩:=bs h
    refine rq (Zb.u 4 (Zo (ys:=[Zd false r2.x1,iv i610]) (h:=Zg Zf he1181)) (Zb.u 0 (Zw (Zq (sz:=10) (off:=0) (cs:=[.int .i64 e1181.Id,.int .i64 e1181.Talker,.int .i64 e1181.Listener,.int .i64 e1181.Class,.int .i64 e1181.Size,.int .i64 e1181.Period,.int .i64 e1181.Bucket.Burst,.int .i64 e1181.Bucket.Rate,.int .i64 e1181.Deadline,.sl 1 false (List.map (eSl 1 eI64) e1181.Routes)]) (r:=.agg (Ze e1181)) Zf he1181)) (Zb.v 1 (Zs (hc:=Zap N r1 r1112 e1181 0 r1182 hr1182)) Zb.f))) (tq ?_)
    refine sq ?_
    obtain ⟨e1183,he1183,h⟩:=bs h
    obtain ⟨r1184,hr1184,h⟩:=bs h
    refine rq (Zb.u 4 (Zo (ys:=[Zd false r2.x1,iv i610]) (h:=Zg Zf he1183)) (Zb.u 0 (Zw (Zq (sz:=10) (off:=0) (cs:=[.int .i64 e1183.Id,.int .i64 e1183.Talker,.int .i64 e1183.Listener,.int .i64 e1183.Class,.int .i64 e1183.Size,.int .i64 e1183.Period,.int .i64 e1183.Bucket.Burst,.int .i64 e1183.Bucket.Rate,.int .i64 e1183.Deadline,.sl 1 false (List.map (eSl 1 eI64) e1183.Routes)]) (r:=.agg (Ze e1183)) Zf he1183)) (Zb.v 1 (Zs (hc:=ZaO N r1 r1112 e1183 0 r1184 hr1184)) Zb.f))) (tq ?_)
    refine sq ?_
    obtain ⟨e1185,he1185,h⟩:=bs h
    obtain ⟨r1186,hr1186,h⟩:=bs h
    refine rq (Zb.u 4 (Zo (ys:=[Zd false r2.x1,iv i610]) (h:=Zg Zf he1185)) (Zb.u 0 (Zw (Zq (sz:=10) (off:=0) (cs:=[.int .i64 e1185.Id,.int .i64 e1185.Talker,.int .i64 e1185.Listener,.int .i64 e1185.Class,.int .i64 e1185.Size,.int .i64 e1185.Period,.int .i64 e1185.Bucket.Burst,.int .i64 e1185.Bucket.Rate,.int .i64 e1185.Deadline,.sl 1 false (List.map (eSl 1 eI64) e1185.Routes)]) (r:=.agg (Ze e1185)) Zf he1185)) (Zb.v 1 (Zs (hc:=Zax N r1 r1112 e1185 0 r1186 hr1186)) Zb.f))) (tq ?_)
    refine sq ?_
    obtain ⟨e1187,he1187,h⟩:=bs h
    obtain ⟨r1188,hr1188,h⟩:=bs h
    refine rq (Zb.u 4 (Zo (ys:=[Zd false r2.x1,iv i610]) (h:=Zg Zf he1187)) (Zb.u 0 (Zw (Zq (sz:=10) (off:=0) (cs:=[.int .i64 e1187.Id,.int .i64 e1187.Talker,.int .i64 e1187.Listener,.int .i64 e1187.Class,.int .i64 e1187.Size,.int .i64 e1187.Period,.int .i64 e1187.Bucket.Burst,.int .i64 e1187.Bucket.Rate,.int .i64 e1187.Deadline,.sl 1 false (List.map (eSl 1 eI64) e1187.Routes)]) (r:=.agg (Ze e1187)) Zf he1187)) (Zb.v 1 (Zs (hc:=ZaN N r1 r1112 e1187 0 r1188 hr1188)) Zb.f))) (tq ?_)
    refine sq ?_
    obtain ⟨j1196,hj,h⟩:=bs h
    refine rgR (fun s=>s=⟨[(1,iv a1_),(2,.loc 2 0),(5,.loc 5 0),(7,Zd false r2.x1),(8,iv i610),(10,.loc 10 0),(26,.agg (ZD r2)),(27,iv 1),(48,.agg [iv a0_.Setup.Grid,iv a0_.Setup.Slack,iv a0_.Setup.Proc,iv a0_.Setup.Cap,iv r1112.Grid,iv r1112.Slack,iv r1112.Proc,iv r1112.Cap]),(49,iv 1),(53,.agg [iv a1_,iv 0,iv 1]),(54,iv 1),(119,bv j1196)],[(2,(ZI a0_)),(5,(Za r1)),(10,(Zn r1112))],[]⟩) ?_ ?_
    ·clear h
     rcases Zt hj with ⟨hc1189,hj⟩ | ⟨hc1190,hj⟩
     ·obtain rfl:=Zc hj
      exact (EP.u 2 (Zj (c:=(r1182.2 != r1184.2)) (h:=hc1189)) (EP.f (by show _=_;kernel_rfl)))
     refine (EP.u 2 (Zj (c:=(r1182.2 != r1184.2)) (h:=hc1190)) ?_)
     rcases Zt hj with ⟨hc1191,hj⟩ | ⟨hc1192,hj⟩
     ·obtain rfl:=Zc hj
      exact (EP.u 3 (Zj (c:=(r1186.2 != r1188.2)) (h:=hc1191)) (EP.f (by show _=_;kernel_rfl)))
     refine (EP.u 3 (Zj (c:=(r1186.2 != r1188.2)) (h:=hc1192)) ?_)
     rcases Zt hj with ⟨hc1193,hj⟩ | ⟨hc1194,hj⟩
     ·obtain rfl:=Zc hj
      exact (EP.u 4 (Zj (c:=(r1186.1 != r1188.1)) (h:=hc1193)) (EP.f (by show _=_;kernel_rfl)))
     refine (EP.u 4 (Zj (c:=(r1186.1 != r1188.1)) (h:=hc1194)) ?_)
     obtain ⟨r1195,hr1195,hj⟩:=bs hj
     obtain rfl:=Zc hj
     exact (EP.v 4 (Zs (hc:=Zae N r1182.1 r1184.1 r1195 hr1195)) (EP.f (by show _=_;kernel_rfl)))
    clear hj
    rintro s hR
    obtain rfl:=hR
    refine tq (it h (fun hc1197 h => ?_) (fun hc1197 h => ?_))
    ·refine sq (rg Zb.f ?_)
     refine tq (rt ?_)
     refine br (tr ?_)
     refine tr (br ?_)
     refine br (tr ?_)
     refine tr (br ?_)
     refine br (tr ?_)
     obtain rfl:=Zc h
     exact ⟨_,rfl,rfl,ZC (by kernel_rfl)⟩
    refine sk (bn ?_)
    refine tq (kq ?_)
    refine rg Zb.f (tq ?_)
    refine Z5 ?_
    refine sq (rg Zb.f ?_)
    refine tq (sq ?_)
    refine ZaP (by kernel_rfl) ?_
    refine sk (tq ?_)
    refine kq (sq ?_)
    refine bk (sq ?_)
    refine rg Zb.f (tq ?_)
    refine sq ?_
    obtain ⟨e1198,he1198,h⟩:=bs h
    obtain ⟨r1199,hr1199,h⟩:=bs h
    refine rq (Zb.u 4 (Zo (ys:=[Zd false r2.x1,iv i610]) (h:=Zg Zf he1198)) (Zb.u 0 (Zw (Zq (sz:=10) (off:=0) (cs:=[.int .i64 e1198.Id,.int .i64 e1198.Talker,.int .i64 e1198.Listener,.int .i64 e1198.Class,.int .i64 e1198.Size,.int .i64 e1198.Period,.int .i64 e1198.Bucket.Burst,.int .i64 e1198.Bucket.Rate,.int .i64 e1198.Deadline,.sl 1 false (List.map (eSl 1 eI64) e1198.Routes)]) (r:=.agg (Ze e1198)) Zf he1198)) (Zb.v 1 (Zs (hc:=Zap N r1 r1112 e1198 1 r1199 hr1199)) Zb.f))) (tq ?_)
    refine sq ?_
    obtain ⟨e1200,he1200,h⟩:=bs h
    obtain ⟨r1201,hr1201,h⟩:=bs h
    refine rq (Zb.u 4 (Zo (ys:=[Zd false r2.x1,iv i610]) (h:=Zg Zf he1200)) (Zb.u 0 (Zw (Zq (sz:=10) (off:=0) (cs:=[.int .i64 e1200.Id,.int .i64 e1200.Talker,.int .i64 e1200.Listener,.int .i64 e1200.Class,.int .i64 e1200.Size,.int .i64 e1200.Period,.int .i64 e1200.Bucket.Burst,.int .i64 e1200.Bucket.Rate,.int .i64 e1200.Deadline,.sl 1 false (List.map (eSl 1 eI64) e1200.Routes)]) (r:=.agg (Ze e1200)) Zf he1200)) (Zb.v 1 (Zs (hc:=ZaO N r1 r1112 e1200 1 r1201 hr1201)) Zb.f))) (tq ?_)
    refine sq ?_
    obtain ⟨e1202,he1202,h⟩:=bs h
    obtain ⟨r1203,hr1203,h⟩:=bs h
    refine rq (Zb.u 4 (Zo (ys:=[Zd false r2.x1,iv i610]) (h:=Zg Zf he1202)) (Zb.u 0 (Zw (Zq (sz:=10) (off:=0) (cs:=[.int .i64 e1202.Id,.int .i64 e1202.Talker,.int .i64 e1202.Listener,.int .i64 e1202.Class,.int .i64 e1202.Size,.int .i64 e1202.Period,.int .i64 e1202.Bucket.Burst,.int .i64 e1202.Bucket.Rate,.int .i64 e1202.Deadline,.sl 1 false (List.map (eSl 1 eI64) e1202.Routes)]) (r:=.agg (Ze e1202)) Zf he1202)) (Zb.v 1 (Zs (hc:=Zax N r1 r1112 e1202 1 r1203 hr1203)) Zb.f))) (tq ?_)
    refine sq ?_
    obtain ⟨e1204,he1204,h⟩:=bs h
    obtain ⟨r1205,hr1205,h⟩:=bs h
    refine rq (Zb.u 4 (Zo (ys:=[Zd false r2.x1,iv i610]) (h:=Zg Zf he1204)) (Zb.u 0 (Zw (Zq (sz:=10) (off:=0) (cs:=[.int .i64 e1204.Id,.int .i64 e1204.Talker,.int .i64 e1204.Listener,.int .i64 e1204.Class,.int .i64 e1204.Size,.int .i64 e1204.Period,.int .i64 e1204.Bucket.Burst,.int .i64 e1204.Bucket.Rate,.int .i64 e1204.Deadline,.sl 1 false (List.map (eSl 1 eI64) e1204.Routes)]) (r:=.agg (Ze e1204)) Zf he1204)) (Zb.v 1 (Zs (hc:=ZaN N r1 r1112 e1204 1 r1205 hr1205)) Zb.f))) (tq ?_)
    refine sq ?_
    obtain ⟨j1213,hj,h⟩:=bs h
    refine rgR (fun s=>s=⟨[(1,iv a1_),(2,.loc 2 0),(5,.loc 5 0),(7,Zd false r2.x1),(8,iv i610),(10,.loc 10 0),(26,.agg (ZD r2)),(27,iv 1),(48,.agg [iv a0_.Setup.Grid,iv a0_.Setup.Slack,iv a0_.Setup.Proc,iv a0_.Setup.Cap,iv r1112.Grid,iv r1112.Slack,iv r1112.Proc,iv r1112.Cap]),(49,iv 1),(53,.agg [iv a1_,iv 0,iv 1]),(54,iv 2),(119,bv j1213)],[(2,(ZI a0_)),(5,(Za r1)),(10,(Zn r1112))],[]⟩) ?_ ?_
    ·clear h
     rcases Zt hj with ⟨hc1206,hj⟩ | ⟨hc1207,hj⟩
     ·obtain rfl:=Zc hj
      exact (EP.u 2 (Zj (c:=(r1199.2 != r1201.2)) (h:=hc1206)) (EP.f (by show _=_;kernel_rfl)))
     refine (EP.u 2 (Zj (c:=(r1199.2 != r1201.2)) (h:=hc1207)) ?_)
     rcases Zt hj with ⟨hc1208,hj⟩ | ⟨hc1209,hj⟩
     ·obtain rfl:=Zc hj
      exact (EP.u 3 (Zj (c:=(r1203.2 != r1205.2)) (h:=hc1208)) (EP.f (by show _=_;kernel_rfl)))
     refine (EP.u 3 (Zj (c:=(r1203.2 != r1205.2)) (h:=hc1209)) ?_)
     rcases Zt hj with ⟨hc1210,hj⟩ | ⟨hc1211,hj⟩
     ·obtain rfl:=Zc hj
      exact (EP.u 4 (Zj (c:=(r1203.1 != r1205.1)) (h:=hc1210)) (EP.f (by show _=_;kernel_rfl)))
     refine (EP.u 4 (Zj (c:=(r1203.1 != r1205.1)) (h:=hc1211)) ?_)
     obtain ⟨r1212,hr1212,hj⟩:=bs hj
     obtain rfl:=Zc hj
     exact (EP.v 4 (Zs (hc:=Zae N r1199.1 r1201.1 r1212 hr1212)) (EP.f (by show _=_;kernel_rfl)))
    clear hj
    rintro s hR
    obtain rfl:=hR
    refine tq (it h (fun hc1214 h => ?_) (fun hc1214 h => ?_))
    ·refine sq (rg Zb.f ?_)
     refine tq (rt ?_)
     refine br (tr ?_)
     refine tr (br ?_)
     refine br (tr ?_)
     refine tr (br ?_)
     refine br (tr ?_)
     obtain rfl:=Zc h
     exact ⟨_,rfl,rfl,ZC (by kernel_rfl)⟩
    refine sk (bn ?_)
    refine tq (kq ?_)
    refine rg Zb.f (tq ?_)
    refine Z5 ?_
    refine sq (rg Zb.f ?_)
    refine tq (sq ?_)
    refine Zdv (by kernel_rfl) ?_
    refine kq (xq ?_)
    refine tx (tx ?_)
    refine bx (bn ?_)
    refine tq (rg Zb.f ?_)
    refine tq (Z5 ?_)
    refine sq (rg Zb.f ?_)
    refine tq (sq ?_)
    refine Zdv (by kernel_rfl) ?_
    refine kq (xq ?_)
    refine tx (tx ?_)
    refine bx (bn ?_)
    refine tq (rg Zb.f ?_)
    obtain rfl:=Zc h
    exact ⟨_,rfl,(by show _=_;kernel_rfl)⟩
   refine kq (xq ?_)
   refine tx ?_
   obtain rfl:=Zc h
   exact ⟨_,rfl,rfl,(by show _=_;kernel_rfl)⟩
  rintro e s hq
  rcases o1215 with p1216 | p1218
  ·dsimp only at h hq
   obtain ⟨rfl,hR⟩:=hq
   obtain rfl:=hR
   refine bx (bn ?_)
   refine tq (rg Zb.f ?_)
   refine tq (Z5 ?_)
   refine sq (rg Zb.f ?_)
   refine tq (sq ?_)
   refine Zdv (by kernel_rfl) ?_
   refine kq (xq ?_)
   refine tx (tx ?_)
   refine bx (tq ?_)
   refine sq ?_
   obtain ⟨r1217,hr1217,h⟩:=bs h
   refine rg (Zb.v 0 (Zs (hc:=Zkj N  r1217 hr1217)) Zb.f) (tq ?_)
   refine rt ?_
   obtain rfl:=Zc h
   exact ZC (by kernel_rfl)
  dsimp only at h hq
  obtain ⟨rfl,hq⟩:=hq
  refine br (br ?_)
  refine tr (tr ?_)
  refine br (tr ?_)
  obtain rfl:=Zc h
  exact hq
 dsimp only at h hq
 obtain ⟨rfl,hq⟩:=hq
 refine br (br ?_)
 refine tr (tr ?_)
 refine br (tr ?_)
 obtain rfl:=Zc h
 exact hq
end Go.Sh

