/- Part of the proof; written by a program out of the texts in wip/. -/
import Derived.Test.YtmplmekdilmdgaaStreamHopsOk2
namespace Go.Sh
open Go Go.Eng Go.Proofs
set_option linter.unusedVariables false
set_option linter.unusedSimpArgs false
set_option maxRecDepth 100000
set_option maxHeartbeats 4000000
attribute [local irreducible] vc ev ZfH opsD opsF Zg7 upd updH updO
theorem Zgn (N:Nat) (a0_:Zbj) (a1_:Zi) (r:Zab) (h:Zb7 N a0_ a1_=some r):Zal Try.prog 9 [.agg (ZI a0_),.agg (Za a1_)] (.agg [Zd false r.x0,Zd false r.x1]):=by
 unfold Zb7 at h
 have hH:HP ([]:List HO) []:=trivial
 refine ZF chk9 rfl rfl (Zv _ _ _ ?_) rfl
 refine sq (rg Zb.f ?_)
 refine tq (sq ?_)
 obtain ⟨r1,hr1,h⟩:=bs h
 refine rg (Zb.v 3 (Zs (hc:=ZiE N a1_ a0_.L r1 hr1)) Zb.f) (tq ?_)
 refine sq ?_
 obtain ⟨l4,hl4,h⟩:=bs h
 obtain ⟨a2,H3,ha2,hH⟩:=ZmS (sz:=10) Zf hH hl4
 replace hH:HP H3 [.arr a2 10 false (List.map Zf l4)]:=hH
 have hfa2:=Zu (HP.get hH 0 rfl)
 refine rgS ⟨[(2,.loc 2 0),(4,.loc 4 0),(5,Zd false r1),(6,a2)],[(2,(ZI a0_)),(4,[Zd true [],Zd true []])],H3⟩ (Zb.h 2 (ZdH (H:=[]) (a:=Zd true []) (b:=Zd false r1) (by kernel_rfl) (by kernel_rfl) (by kernel_rfl) (by kernel_rfl) ha2) Zb.f) (by rcases hfa2 with ha2e | ⟨_,_,ha2e⟩<;>subst ha2e<;>kernel_rfl) ?_
 refine tq ?_
 obtain ⟨j507,hj507,h⟩:=bs h
 refine Zcu [4,5,6] (fun s=>∃ (a505:AV) (H506:List HO),s=⟨[(4,.loc 4 0),(5,Zd false r1),(6,a505)],[(4,[Zd true [],Zd true []])],H506⟩∧HP H506 [.arr a505 10 false (List.map Zf j507)]) ?_ ?_
 ·clear h
  have h:=hj507
  refine sq ?_
  have hln508:=HP.len (k:=0) (a:=a2) (sz:=10) (frz:=false) (l:=l4) Zf hH rfl
  refine rgS ⟨[(2,.loc 2 0),(4,.loc 4 0),(5,Zd false r1),(6,a2),(18,bv (decide (((List.length l4:Nat):Int) > 0)))],[(2,(ZI a0_)),(4,[Zd true [],Zd true []])],H3⟩ (Zb.u 1 (Zo (ys:=[a2]) (by rcases hfa2 with ha2e | ⟨_,_,ha2e⟩<;>subst ha2e<;>kernel_rfl) hln508) Zb.f) (by rcases hfa2 with ha2e | ⟨_,_,ha2e⟩<;>subst ha2e<;>kernel_rfl) ?_
  refine tq (it h (fun hc509 h => ?_) (fun hc509 h => ?_))
  ·refine sq ?_
   have hln510:=HP.len (k:=0) (a:=a2) (sz:=10) (frz:=false) (l:=l4) Zf hH rfl
   obtain ⟨m511,hm511,h⟩:=bs h
   refine rgS ⟨[(2,.loc 2 0),(4,.loc 4 0),(5,Zd false r1),(6,a2),(7,iv m511)],[(2,(ZI a0_)),(4,[Zd true [],Zd true []])],H3⟩ (Zb.u 4 (Zo (ys:=[a2]) (by rcases hfa2 with ha2e | ⟨_,_,ha2e⟩<;>subst ha2e<;>kernel_rfl) hln510) (Zb.u 0 (Zo (ys:=[iv (w64 (a0_.At)),iv ((List.length l4:Nat):Int)]) (h:=Zdt hm511)) Zb.f)) (by rcases hfa2 with ha2e | ⟨_,_,ha2e⟩<;>subst ha2e<;>kernel_rfl) ?_
   refine tq (sq ?_)
   obtain ⟨e512,he512,h⟩:=bs h
   obtain ⟨id513,ver514,_,hid513f,hid513,hid513a,hid513v⟩:=HP.elem (k:=0) (a:=a2) (sz:=10) (frz:=false) Zf hH rfl he512
   refine rgS ⟨[(2,.loc 2 0),(4,.loc 4 0),(5,Zd false r1),(6,a2),(7,iv m511),(8,.loc 8 0)],[(2,(ZI a0_)),(4,[Zd true [],Zd true []]),(8,(Ze e512))],H3⟩ (Zb.u 2 (Zo (ys:=[a2,iv m511]) (by rcases hfa2 with ha2e | ⟨_,_,ha2e⟩<;>subst ha2e<;>kernel_rfl) (hid513v .i64)) (Zb.u 0 (ZbD (H:=H3) (off:=0) (cs:=[.int .i64 e512.Id,.int .i64 e512.Talker,.int .i64 e512.Listener,.int .i64 e512.Class,.int .i64 e512.Size,.int .i64 e512.Period,.int .i64 e512.Bucket.Burst,.int .i64 e512.Bucket.Rate,.int .i64 e512.Deadline,.sl 1 false (List.map (eSl 1 eI64) e512.Routes)]) (r:=.agg (Ze e512)) Zf he512 hid513) (Zb.f (h:=(by rcases hfa2 with ha2e | ⟨_,_,ha2e⟩<;>subst ha2e<;>kernel_rfl))))) (by rcases hfa2 with ha2e | ⟨_,_,ha2e⟩<;>subst ha2e<;>kernel_rfl) ?_
   refine tq ?_
   obtain ⟨j1018,hj1018,h⟩:=bs h
   refine Zcu [4,5,6,7,8] (fun s=>∃ (a1015:AV) (f1016:Bool) (H1017:List HO),s=⟨[(4,.loc 4 0),(5,Zd false r1),(6,a1015),(7,iv m511),(8,.loc 8 0)],[(4,[Zd true [],Zd true []]),(8,[iv j1018.1,iv j1018.2.1,iv j1018.2.2.1,iv j1018.2.2.2.1,iv j1018.2.2.2.2.1,iv j1018.2.2.2.2.2.1,iv j1018.2.2.2.2.2.2.1,iv j1018.2.2.2.2.2.2.2.1,iv j1018.2.2.2.2.2.2.2.2.1,Zl f1016 j1018.2.2.2.2.2.2.2.2.2])],H1017⟩∧HP H1017 [.arr a1015 10 false (List.map Zf l4)]) ?_ ?_
   ·clear h
    have h:=hj1018
    refine sq (rgS ⟨[(2,.loc 2 0),(4,.loc 4 0),(5,Zd false r1),(6,a2),(7,iv m511),(8,.loc 8 0),(31,.p (.int .u8 (Int.tmod a0_.Bit 14)))],[(2,(ZI a0_)),(4,[Zd true [],Zd true []]),(8,(Ze e512))],H3⟩ Zb.f (by rcases hfa2 with ha2e | ⟨_,_,ha2e⟩<;>subst ha2e<;>kernel_rfl) ?_)
    refine tq (bk ?_)
    refine sq (rgS ⟨[(2,.loc 2 0),(4,.loc 4 0),(5,Zd false r1),(6,a2),(7,iv m511),(8,.loc 8 0),(31,.p (.int .u8 (Int.tmod a0_.Bit 14))),(34,bv ((Int.tmod a0_.Bit 14)==0))],[(2,(ZI a0_)),(4,[Zd true [],Zd true []]),(8,(Ze e512))],H3⟩ Zb.f (by rcases hfa2 with ha2e | ⟨_,_,ha2e⟩<;>subst ha2e<;>kernel_rfl) ?_)
    refine tq (it h (fun hc1019 h => ?_) (fun hc1019 h => ?_))
    ·refine rgS ⟨[(4,.loc 4 0),(5,Zd false r1),(6,a2),(7,iv m511),(8,.loc 8 0)],[(4,[Zd true [],Zd true []]),(8,[iv a0_.Odd.Id,iv e512.Talker,iv e512.Listener,iv e512.Class,iv e512.Size,iv e512.Period,iv e512.Bucket.Burst,iv e512.Bucket.Rate,iv e512.Deadline,Zl false e512.Routes])],H3⟩ Zb.f (by rcases hfa2 with ha2e | ⟨_,_,ha2e⟩<;>subst ha2e<;>kernel_rfl) ?_
     refine bn ?_
     obtain rfl:=Zc h
     exact ⟨rfl,⟨a2,false,H3,(by show _=_;rcases hfa2 with ha2e | ⟨_,_,ha2e⟩<;>subst ha2e<;>kernel_rfl),(HP.pick hH [0] rfl)⟩⟩
    refine sq (rgS ⟨[(2,.loc 2 0),(4,.loc 4 0),(5,Zd false r1),(6,a2),(7,iv m511),(8,.loc 8 0),(31,.p (.int .u8 (Int.tmod a0_.Bit 14))),(40,bv ((Int.tmod a0_.Bit 14)==1))],[(2,(ZI a0_)),(4,[Zd true [],Zd true []]),(8,(Ze e512))],H3⟩ Zb.f (by rcases hfa2 with ha2e | ⟨_,_,ha2e⟩<;>subst ha2e<;>kernel_rfl) ?_)
    refine tq (it h (fun hc1020 h => ?_) (fun hc1020 h => ?_))
    ·refine rgS ⟨[(4,.loc 4 0),(5,Zd false r1),(6,a2),(7,iv m511),(8,.loc 8 0)],[(4,[Zd true [],Zd true []]),(8,[iv e512.Id,iv e512.Listener,iv e512.Talker,iv e512.Class,iv e512.Size,iv e512.Period,iv e512.Bucket.Burst,iv e512.Bucket.Rate,iv e512.Deadline,Zl false e512.Routes])],H3⟩ Zb.f (by rcases hfa2 with ha2e | ⟨_,_,ha2e⟩<;>subst ha2e<;>kernel_rfl) ?_
     refine bn ?_
     obtain rfl:=Zc h
     exact ⟨rfl,⟨a2,false,H3,(by show _=_;rcases hfa2 with ha2e | ⟨_,_,ha2e⟩<;>subst ha2e<;>kernel_rfl),(HP.pick hH [0] rfl)⟩⟩
    refine sq (rgS ⟨[(2,.loc 2 0),(4,.loc 4 0),(5,Zd false r1),(6,a2),(7,iv m511),(8,.loc 8 0),(31,.p (.int .u8 (Int.tmod a0_.Bit 14))),(48,bv ((Int.tmod a0_.Bit 14)==2))],[(2,(ZI a0_)),(4,[Zd true [],Zd true []]),(8,(Ze e512))],H3⟩ Zb.f (by rcases hfa2 with ha2e | ⟨_,_,ha2e⟩<;>subst ha2e<;>kernel_rfl) ?_)
    refine tq (it h (fun hc1021 h => ?_) (fun hc1021 h => ?_))
    ·refine rgS ⟨[(4,.loc 4 0),(5,Zd false r1),(6,a2),(7,iv m511),(8,.loc 8 0)],[(4,[Zd true [],Zd true []]),(8,[iv e512.Id,iv e512.Talker,iv e512.Listener,iv a0_.Odd.Class,iv e512.Size,iv e512.Period,iv e512.Bucket.Burst,iv e512.Bucket.Rate,iv e512.Deadline,Zl false e512.Routes])],H3⟩ Zb.f (by rcases hfa2 with ha2e | ⟨_,_,ha2e⟩<;>subst ha2e<;>kernel_rfl) ?_
     refine bn ?_
     obtain rfl:=Zc h
     exact ⟨rfl,⟨a2,false,H3,(by show _=_;rcases hfa2 with ha2e | ⟨_,_,ha2e⟩<;>subst ha2e<;>kernel_rfl),(HP.pick hH [0] rfl)⟩⟩
    refine sq (rgS ⟨[(2,.loc 2 0),(4,.loc 4 0),(5,Zd false r1),(6,a2),(7,iv m511),(8,.loc 8 0),(31,.p (.int .u8 (Int.tmod a0_.Bit 14))),(54,bv ((Int.tmod a0_.Bit 14)==3))],[(2,(ZI a0_)),(4,[Zd true [],Zd true []]),(8,(Ze e512))],H3⟩ Zb.f (by rcases hfa2 with ha2e | ⟨_,_,ha2e⟩<;>subst ha2e<;>kernel_rfl) ?_)
    refine tq (it h (fun hc1022 h => ?_) (fun hc1022 h => ?_))
    ·refine rgS ⟨[(4,.loc 4 0),(5,Zd false r1),(6,a2),(7,iv m511),(8,.loc 8 0)],[(4,[Zd true [],Zd true []]),(8,[iv e512.Id,iv e512.Talker,iv e512.Listener,iv e512.Class,iv a0_.Odd.Size,iv e512.Period,iv e512.Bucket.Burst,iv e512.Bucket.Rate,iv e512.Deadline,Zl false e512.Routes])],H3⟩ Zb.f (by rcases hfa2 with ha2e | ⟨_,_,ha2e⟩<;>subst ha2e<;>kernel_rfl) ?_
     refine bn ?_
     obtain rfl:=Zc h
     exact ⟨rfl,⟨a2,false,H3,(by show _=_;rcases hfa2 with ha2e | ⟨_,_,ha2e⟩<;>subst ha2e<;>kernel_rfl),(HP.pick hH [0] rfl)⟩⟩
    refine sq (rgS ⟨[(2,.loc 2 0),(4,.loc 4 0),(5,Zd false r1),(6,a2),(7,iv m511),(8,.loc 8 0),(31,.p (.int .u8 (Int.tmod a0_.Bit 14))),(60,bv ((Int.tmod a0_.Bit 14)==4))],[(2,(ZI a0_)),(4,[Zd true [],Zd true []]),(8,(Ze e512))],H3⟩ Zb.f (by rcases hfa2 with ha2e | ⟨_,_,ha2e⟩<;>subst ha2e<;>kernel_rfl) ?_)
    refine tq (it h (fun hc1023 h => ?_) (fun hc1023 h => ?_))
    ·refine rgS ⟨[(4,.loc 4 0),(5,Zd false r1),(6,a2),(7,iv m511),(8,.loc 8 0)],[(4,[Zd true [],Zd true []]),(8,[iv e512.Id,iv e512.Talker,iv e512.Listener,iv e512.Class,iv e512.Size,iv a0_.Odd.Period,iv e512.Bucket.Burst,iv e512.Bucket.Rate,iv e512.Deadline,Zl false e512.Routes])],H3⟩ Zb.f (by rcases hfa2 with ha2e | ⟨_,_,ha2e⟩<;>subst ha2e<;>kernel_rfl) ?_
     refine bn ?_
     obtain rfl:=Zc h
     exact ⟨rfl,⟨a2,false,H3,(by show _=_;rcases hfa2 with ha2e | ⟨_,_,ha2e⟩<;>subst ha2e<;>kernel_rfl),(HP.pick hH [0] rfl)⟩⟩
    refine sq (rgS ⟨[(2,.loc 2 0),(4,.loc 4 0),(5,Zd false r1),(6,a2),(7,iv m511),(8,.loc 8 0),(31,.p (.int .u8 (Int.tmod a0_.Bit 14))),(66,bv ((Int.tmod a0_.Bit 14)==5))],[(2,(ZI a0_)),(4,[Zd true [],Zd true []]),(8,(Ze e512))],H3⟩ Zb.f (by rcases hfa2 with ha2e | ⟨_,_,ha2e⟩<;>subst ha2e<;>kernel_rfl) ?_)
    refine tq (it h (fun hc1024 h => ?_) (fun hc1024 h => ?_))
    ·refine rgS ⟨[(4,.loc 4 0),(5,Zd false r1),(6,a2),(7,iv m511),(8,.loc 8 0)],[(4,[Zd true [],Zd true []]),(8,[iv e512.Id,iv e512.Talker,iv e512.Listener,iv e512.Class,iv e512.Size,iv e512.Period,iv a0_.Odd.Bucket.Burst,iv a0_.Odd.Bucket.Rate,iv e512.Deadline,Zl false e512.Routes])],H3⟩ Zb.f (by rcases hfa2 with ha2e | ⟨_,_,ha2e⟩<;>subst ha2e<;>kernel_rfl) ?_
     refine bn ?_
     obtain rfl:=Zc h
     exact ⟨rfl,⟨a2,false,H3,(by show _=_;rcases hfa2 with ha2e | ⟨_,_,ha2e⟩<;>subst ha2e<;>kernel_rfl),(HP.pick hH [0] rfl)⟩⟩
    refine sq (rgS ⟨[(2,.loc 2 0),(4,.loc 4 0),(5,Zd false r1),(6,a2),(7,iv m511),(8,.loc 8 0),(31,.p (.int .u8 (Int.tmod a0_.Bit 14))),(72,bv ((Int.tmod a0_.Bit 14)==6))],[(2,(ZI a0_)),(4,[Zd true [],Zd true []]),(8,(Ze e512))],H3⟩ Zb.f (by rcases hfa2 with ha2e | ⟨_,_,ha2e⟩<;>subst ha2e<;>kernel_rfl) ?_)
    refine tq (it h (fun hc1025 h => ?_) (fun hc1025 h => ?_))
    ·refine rgS ⟨[(4,.loc 4 0),(5,Zd false r1),(6,a2),(7,iv m511),(8,.loc 8 0)],[(4,[Zd true [],Zd true []]),(8,[iv e512.Id,iv e512.Talker,iv e512.Listener,iv e512.Class,iv e512.Size,iv e512.Period,iv e512.Bucket.Burst,iv e512.Bucket.Rate,iv a0_.Odd.Deadline,Zl false e512.Routes])],H3⟩ Zb.f (by rcases hfa2 with ha2e | ⟨_,_,ha2e⟩<;>subst ha2e<;>kernel_rfl) ?_
     refine bn ?_
     obtain rfl:=Zc h
     exact ⟨rfl,⟨a2,false,H3,(by show _=_;rcases hfa2 with ha2e | ⟨_,_,ha2e⟩<;>subst ha2e<;>kernel_rfl),(HP.pick hH [0] rfl)⟩⟩
    refine sq (rgS ⟨[(2,.loc 2 0),(4,.loc 4 0),(5,Zd false r1),(6,a2),(7,iv m511),(8,.loc 8 0),(31,.p (.int .u8 (Int.tmod a0_.Bit 14))),(78,bv ((Int.tmod a0_.Bit 14)==7))],[(2,(ZI a0_)),(4,[Zd true [],Zd true []]),(8,(Ze e512))],H3⟩ Zb.f (by rcases hfa2 with ha2e | ⟨_,_,ha2e⟩<;>subst ha2e<;>kernel_rfl) ?_)
    refine tq (it h (fun hc1026 h => ?_) (fun hc1026 h => ?_))
    ·refine vc_pu ?_
     obtain ⟨e1027,he1027,h⟩:=bs h
     obtain ⟨l1030,hl1030,h⟩:=bs h
     obtain ⟨a1028,H1029,ha1028,hH⟩:=ZmS (sz:=1) (eSl 1 eI64) hH hl1030
     replace hH:HP H1029 [.arr a1028 1 false (List.map (eSl 1 eI64) l1030),.arr a2 10 false (List.map Zf l4)]:=hH
     have hfa1028:=Zu (HP.get hH 0 rfl)
     obtain ⟨l1033,hl1033,h⟩:=bs h
     obtain ⟨a1031,H1032,ha1031,hH⟩:=HP.app (k:=0) (a:=a1028) (sz:=1) (frz:=false) (eSl 1 eI64) hH rfl hl1033
     replace hH:HP H1032 [.arr a1031 1 false (List.map (eSl 1 eI64) l1033),.arr a2 10 false (List.map Zf l4)]:=hH
     have hfa1031:=Zu (HP.get hH 0 rfl)
     refine rqS ⟨[(4,.loc 4 0),(5,Zd false r1),(6,a2),(7,iv m511),(8,.loc 8 0)],[(4,[Zd true [],Zd true []]),(8,[iv e512.Id,iv e512.Talker,iv e512.Listener,iv e512.Class,iv e512.Size,iv e512.Period,iv e512.Bucket.Burst,iv e512.Bucket.Rate,iv e512.Deadline,a1031])],H1032⟩ (Zb.u 5 (Zo (ys:=[Zl false e512.Routes,iv 0]) (h:=Zg (eSl 1 eI64) he1027)) (Zb.u 0 (Zw (Zq (sz:=1) (off:=0) (cs:=[.sl 1 false (List.map eI64 e1027)]) (r:=Zk false e1027) (eSl 1 eI64) he1027)) (Zb.h 1 (Zpl (ZdH (H:=H3) (a:=Zl true []) (b:=Zl false e512.Routes) (by kernel_rfl) (by kernel_rfl) (by kernel_rfl) (by kernel_rfl) ha1028) (by kernel_rfl)) (Zb.h 0 (ZdH (H:=H1029) (a:=a1028) (b:=Zl true [e1027]) (by rcases hfa1028 with ha1028e | ⟨_,_,ha1028e⟩<;>subst ha1028e<;>kernel_rfl) (by rcases hfa1028 with ha1028e | ⟨_,_,ha1028e⟩<;>subst ha1028e<;>kernel_rfl) (by rcases hfa1028 with ha1028e | ⟨_,_,ha1028e⟩<;>subst ha1028e<;>kernel_rfl) (by rcases hfa1028 with ha1028e | ⟨_,_,ha1028e⟩<;>subst ha1028e<;>kernel_rfl) ha1031) (Zb.f (h:=(by rcases hfa1031 with ha1031e | ⟨_,_,ha1031e⟩<;>subst ha1031e<;>kernel_rfl))))))) (by rcases hfa1028 with ha1028e | ⟨_,_,ha1028e⟩<;>rcases hfa1031 with ha1031e | ⟨_,_,ha1031e⟩<;>rcases hfa2 with ha2e | ⟨_,_,ha2e⟩<;>subst ha1028e ha1031e ha2e<;>kernel_rfl) ?_
     obtain ⟨H1034,hzH1034,_,hH⟩:=HP.frz (k:=0) (a:=a1031) (sz:=1) (frz:=false) (eSl 1 eI64) hH rfl
     replace hH:HP H1034 [.arr a1031 1 true (List.map (eSl 1 eI64) l1033),.arr a2 10 false (List.map Zf l4)]:=hH
     refine ⟨⟨[(4,.loc 4 0),(5,Zd false r1),(6,a2),(7,iv m511),(8,.loc 8 0)],[(4,[Zd true [],Zd true []]),(8,[iv e512.Id,iv e512.Talker,iv e512.Listener,iv e512.Class,iv e512.Size,iv e512.Period,iv e512.Bucket.Burst,iv e512.Bucket.Rate,iv e512.Deadline,Zl false l1033])],H1034⟩,(ZlO 8 (H:=H1032) (cs:=[iv e512.Id,iv e512.Talker,iv e512.Listener,iv e512.Class,iv e512.Size,iv e512.Period,iv e512.Bucket.Burst,iv e512.Bucket.Rate,iv e512.Deadline,a1031]) (by rcases hfa2 with ha2e | ⟨_,_,ha2e⟩<;>subst ha2e<;>kernel_rfl) (by rcases hfa2 with ha2e | ⟨_,_,ha2e⟩<;>subst ha2e<;>kernel_rfl) (Z4 rfl (Z4 rfl (Z4 rfl (Z4 rfl (Z4 rfl (Z4 rfl (Z4 rfl (Z4 rfl (Z4 rfl (Z4 hzH1034 ZiM)))))))))) (by rcases hfa2 with ha2e | ⟨_,_,ha2e⟩<;>subst ha2e<;>kernel_rfl) (by rcases hfa2 with ha2e | ⟨_,_,ha2e⟩<;>subst ha2e<;>kernel_rfl)),?_⟩
     replace hH:HP H1034 [.arr a2 10 false (List.map Zf l4)]:=HP.pick hH [1] rfl
     refine bn ?_
     obtain rfl:=Zc h
     exact ⟨rfl,⟨a2,false,H1034,(by show _=_;rcases hfa2 with ha2e | ⟨_,_,ha2e⟩<;>subst ha2e<;>kernel_rfl),(HP.pick hH [0] rfl)⟩⟩
    refine sq (rgS ⟨[(2,.loc 2 0),(4,.loc 4 0),(5,Zd false r1),(6,a2),(7,iv m511),(8,.loc 8 0),(31,.p (.int .u8 (Int.tmod a0_.Bit 14))),(91,bv ((Int.tmod a0_.Bit 14)==8))],[(2,(ZI a0_)),(4,[Zd true [],Zd true []]),(8,(Ze e512))],H3⟩ Zb.f (by rcases hfa2 with ha2e | ⟨_,_,ha2e⟩<;>subst ha2e<;>kernel_rfl) ?_)
    refine tq (it h (fun hc1035 h => ?_) (fun hc1035 h => ?_))
    ·obtain ⟨e1036,he1036,h⟩:=bs h
     obtain ⟨l1037,hl1037,h⟩:=bs h
     refine rgS ⟨[(4,.loc 4 0),(5,Zd false r1),(6,a2),(7,iv m511),(8,.loc 8 0)],[(4,[Zd true [],Zd true []]),(8,[iv e512.Id,iv e512.Talker,iv e512.Listener,iv e512.Class,iv e512.Size,iv e512.Period,iv e512.Bucket.Burst,iv e512.Bucket.Rate,iv e512.Deadline,Zl true [l1037]])],H3⟩ (Zb.u 2 (Zo (ys:=[Zl false e512.Routes,iv 0]) (h:=Zg (eSl 1 eI64) he1036)) (Zb.u 0 (Zq (sz:=1) (off:=0) (cs:=[.sl 1 false (List.map eI64 e1036)]) (r:=Zk false e1036) (eSl 1 eI64) he1036) (Zb.u 0 (Zo (ys:=[Zk false e1036,iv 1]) (h:=ZkQ eI64 hl1037)) Zb.f))) (by rcases hfa2 with ha2e | ⟨_,_,ha2e⟩<;>subst ha2e<;>kernel_rfl) ?_
     refine bn ?_
     obtain rfl:=Zc h
     exact ⟨rfl,⟨a2,true,H3,(by show _=_;rcases hfa2 with ha2e | ⟨_,_,ha2e⟩<;>subst ha2e<;>kernel_rfl),(HP.pick hH [0] rfl)⟩⟩
    refine sq (rgS ⟨[(2,.loc 2 0),(4,.loc 4 0),(5,Zd false r1),(6,a2),(7,iv m511),(8,.loc 8 0),(31,.p (.int .u8 (Int.tmod a0_.Bit 14))),(100,bv ((Int.tmod a0_.Bit 14)==9))],[(2,(ZI a0_)),(4,[Zd true [],Zd true []]),(8,(Ze e512))],H3⟩ Zb.f (by rcases hfa2 with ha2e | ⟨_,_,ha2e⟩<;>subst ha2e<;>kernel_rfl) ?_)
    refine tq (it h (fun hc1038 h => ?_) (fun hc1038 h => ?_))
    ·refine rgS ⟨[(4,.loc 4 0),(5,Zd false r1),(6,a2),(7,iv m511),(8,.loc 8 0)],[(4,[Zd true [],Zd true []]),(8,[iv e512.Id,iv e512.Talker,iv e512.Listener,iv e512.Class,iv e512.Size,iv e512.Period,iv e512.Bucket.Burst,iv e512.Bucket.Rate,iv e512.Deadline,Zl true []])],H3⟩ Zb.f (by rcases hfa2 with ha2e | ⟨_,_,ha2e⟩<;>subst ha2e<;>kernel_rfl) ?_
     refine bn ?_
     obtain rfl:=Zc h
     exact ⟨rfl,⟨a2,true,H3,(by show _=_;rcases hfa2 with ha2e | ⟨_,_,ha2e⟩<;>subst ha2e<;>kernel_rfl),(HP.pick hH [0] rfl)⟩⟩
    refine sq (rgS ⟨[(2,.loc 2 0),(4,.loc 4 0),(5,Zd false r1),(6,a2),(7,iv m511),(8,.loc 8 0),(31,.p (.int .u8 (Int.tmod a0_.Bit 14))),(103,bv ((Int.tmod a0_.Bit 14)==10))],[(2,(ZI a0_)),(4,[Zd true [],Zd true []]),(8,(Ze e512))],H3⟩ Zb.f (by rcases hfa2 with ha2e | ⟨_,_,ha2e⟩<;>subst ha2e<;>kernel_rfl) ?_)
    refine tq (it h (fun hc1039 h => ?_) (fun hc1039 h => ?_))
    ·refine rgS ⟨[(4,.loc 4 0),(5,Zd false r1),(6,a2),(7,iv m511),(8,.loc 8 0)],[(4,[Zd true [],Zd true []]),(8,[iv e512.Id,iv e512.Talker,iv e512.Talker,iv e512.Class,iv e512.Size,iv e512.Period,iv e512.Bucket.Burst,iv e512.Bucket.Rate,iv e512.Deadline,Zl false e512.Routes])],H3⟩ Zb.f (by rcases hfa2 with ha2e | ⟨_,_,ha2e⟩<;>subst ha2e<;>kernel_rfl) ?_
     refine bn ?_
     obtain rfl:=Zc h
     exact ⟨rfl,⟨a2,false,H3,(by show _=_;rcases hfa2 with ha2e | ⟨_,_,ha2e⟩<;>subst ha2e<;>kernel_rfl),(HP.pick hH [0] rfl)⟩⟩
    refine sq (rgS ⟨[(2,.loc 2 0),(4,.loc 4 0),(5,Zd false r1),(6,a2),(7,iv m511),(8,.loc 8 0),(31,.p (.int .u8 (Int.tmod a0_.Bit 14))),(108,bv ((Int.tmod a0_.Bit 14)==11))],[(2,(ZI a0_)),(4,[Zd true [],Zd true []]),(8,(Ze e512))],H3⟩ Zb.f (by rcases hfa2 with ha2e | ⟨_,_,ha2e⟩<;>subst ha2e<;>kernel_rfl) ?_)
    refine tq (it h (fun hc1040 h => ?_) (fun hc1040 h => ?_))
    ·obtain ⟨e1041,he1041,h⟩:=bs h
     obtain ⟨id1042,ver1043,_,hid1042f,hid1042,hid1042a,hid1042v⟩:=HP.elem (k:=0) (a:=a2) (sz:=10) (frz:=false) Zf hH rfl he1041
     refine rgS ⟨[(4,.loc 4 0),(5,Zd false r1),(6,a2),(7,iv m511),(8,.loc 8 0)],[(4,[Zd true [],Zd true []]),(8,[iv e1041.Id,iv e512.Talker,iv e512.Listener,iv e512.Class,iv e512.Size,iv e512.Period,iv e512.Bucket.Burst,iv e512.Bucket.Rate,iv e512.Deadline,Zl false e512.Routes])],H3⟩ (Zb.u 1 (Zo (ys:=[a2,iv 0]) (by rcases hfa2 with ha2e | ⟨_,_,ha2e⟩<;>subst ha2e<;>kernel_rfl) (hid1042v .i64)) (Zb.u 1 (ZbD (H:=H3) (off:=0) (cs:=[.int .i64 e1041.Id]) (r:=iv e1041.Id) Zf he1041 hid1042) Zb.f)) (by rcases hfa2 with ha2e | ⟨_,_,ha2e⟩<;>subst ha2e<;>kernel_rfl) ?_
     refine bn ?_
     obtain rfl:=Zc h
     exact ⟨rfl,⟨a2,false,H3,(by show _=_;rcases hfa2 with ha2e | ⟨_,_,ha2e⟩<;>subst ha2e<;>kernel_rfl),(HP.pick hH [0] rfl)⟩⟩
    refine sq (rgS ⟨[(2,.loc 2 0),(4,.loc 4 0),(5,Zd false r1),(6,a2),(7,iv m511),(8,.loc 8 0),(115,bv ((Int.tmod a0_.Bit 14)==12))],[(2,(ZI a0_)),(4,[Zd true [],Zd true []]),(8,(Ze e512))],H3⟩ Zb.f (by rcases hfa2 with ha2e | ⟨_,_,ha2e⟩<;>subst ha2e<;>kernel_rfl) ?_)
    refine tq (it h (fun hc1044 h => ?_) (fun hc1044 h => ?_))
    ·refine vc_pu ?_
     obtain ⟨e1045,he1045,h⟩:=bs h
     obtain ⟨id1046,ver1047,_,hid1046f,hid1046,hid1046a,hid1046v⟩:=HP.elem (k:=0) (a:=a2) (sz:=10) (frz:=false) Zf hH rfl he1045
     obtain ⟨e1048,he1048,h⟩:=bs h
     obtain ⟨l1051,hl1051,h⟩:=bs h
     obtain ⟨a1049,H1050,ha1049,hH⟩:=ZmS (sz:=1) (eSl 1 eI64) hH hl1051
     replace hH:HP H1050 [.arr a1049 1 false (List.map (eSl 1 eI64) l1051),.arr a2 10 false (List.map Zf l4)]:=hH
     have hfa1049:=Zu (HP.get hH 0 rfl)
     obtain ⟨l1054,hl1054,h⟩:=bs h
     obtain ⟨a1052,H1053,ha1052,hH⟩:=HP.app (k:=0) (a:=a1049) (sz:=1) (frz:=false) (eSl 1 eI64) hH rfl hl1054
     replace hH:HP H1053 [.arr a1052 1 false (List.map (eSl 1 eI64) l1054),.arr a2 10 false (List.map Zf l4)]:=hH
     have hfa1052:=Zu (HP.get hH 0 rfl)
     refine rqS ⟨[(4,.loc 4 0),(5,Zd false r1),(6,a2),(7,iv m511),(8,.loc 8 0)],[(4,[Zd true [],Zd true []]),(8,[iv e512.Id,iv e512.Talker,iv e512.Listener,iv e512.Class,iv e512.Size,iv e512.Period,iv e512.Bucket.Burst,iv e512.Bucket.Rate,iv e512.Deadline,a1052])],H1053⟩ (Zb.u 4 (Zo (ys:=[a2,iv 0]) (by rcases hfa2 with ha2e | ⟨_,_,ha2e⟩<;>subst ha2e<;>kernel_rfl) (hid1046v .i64)) (Zb.u 1 (Zw (ZbD (H:=H3) (off:=9) (cs:=[.sl 1 false (List.map (eSl 1 eI64) e1045.Routes)]) (r:=Zl false e1045.Routes) Zf he1045 hid1046)) (Zb.u 0 (Zo (ys:=[Zl false e1045.Routes,iv 0]) (h:=Zg (eSl 1 eI64) he1048)) (Zb.u 0 (Zw (Zq (sz:=1) (off:=0) (cs:=[.sl 1 false (List.map eI64 e1048)]) (r:=Zk false e1048) (eSl 1 eI64) he1048)) (Zb.h 1 (Zpl (ZdH (H:=H3) (a:=Zl true []) (b:=Zl false e512.Routes) (by kernel_rfl) (by kernel_rfl) (by kernel_rfl) (by kernel_rfl) ha1049) (by kernel_rfl)) (Zb.h 0 (ZdH (H:=H1050) (a:=a1049) (b:=Zl true [e1048]) (by rcases hfa1049 with ha1049e | ⟨_,_,ha1049e⟩<;>subst ha1049e<;>kernel_rfl) (by rcases hfa1049 with ha1049e | ⟨_,_,ha1049e⟩<;>subst ha1049e<;>kernel_rfl) (by rcases hfa1049 with ha1049e | ⟨_,_,ha1049e⟩<;>subst ha1049e<;>kernel_rfl) (by rcases hfa1049 with ha1049e | ⟨_,_,ha1049e⟩<;>subst ha1049e<;>kernel_rfl) ha1052) (Zb.f (h:=(by rcases hfa1052 with ha1052e | ⟨_,_,ha1052e⟩<;>subst ha1052e<;>kernel_rfl))))))))) (by rcases hfa1049 with ha1049e | ⟨_,_,ha1049e⟩<;>rcases hfa1052 with ha1052e | ⟨_,_,ha1052e⟩<;>rcases hfa2 with ha2e | ⟨_,_,ha2e⟩<;>subst ha1049e ha1052e ha2e<;>kernel_rfl) ?_
     obtain ⟨H1055,hzH1055,_,hH⟩:=HP.frz (k:=0) (a:=a1052) (sz:=1) (frz:=false) (eSl 1 eI64) hH rfl
     replace hH:HP H1055 [.arr a1052 1 true (List.map (eSl 1 eI64) l1054),.arr a2 10 false (List.map Zf l4)]:=hH
     refine ⟨⟨[(4,.loc 4 0),(5,Zd false r1),(6,a2),(7,iv m511),(8,.loc 8 0)],[(4,[Zd true [],Zd true []]),(8,[iv e512.Id,iv e512.Talker,iv e512.Listener,iv e512.Class,iv e512.Size,iv e512.Period,iv e512.Bucket.Burst,iv e512.Bucket.Rate,iv e512.Deadline,Zl false l1054])],H1055⟩,(ZlO 8 (H:=H1053) (cs:=[iv e512.Id,iv e512.Talker,iv e512.Listener,iv e512.Class,iv e512.Size,iv e512.Period,iv e512.Bucket.Burst,iv e512.Bucket.Rate,iv e512.Deadline,a1052]) (by rcases hfa2 with ha2e | ⟨_,_,ha2e⟩<;>subst ha2e<;>kernel_rfl) (by rcases hfa2 with ha2e | ⟨_,_,ha2e⟩<;>subst ha2e<;>kernel_rfl) (Z4 rfl (Z4 rfl (Z4 rfl (Z4 rfl (Z4 rfl (Z4 rfl (Z4 rfl (Z4 rfl (Z4 rfl (Z4 hzH1055 ZiM)))))))))) (by rcases hfa2 with ha2e | ⟨_,_,ha2e⟩<;>subst ha2e<;>kernel_rfl) (by rcases hfa2 with ha2e | ⟨_,_,ha2e⟩<;>subst ha2e<;>kernel_rfl)),?_⟩
     replace hH:HP H1055 [.arr a2 10 false (List.map Zf l4)]:=HP.pick hH [1] rfl
     refine bn ?_
     obtain rfl:=Zc h
     exact ⟨rfl,⟨a2,false,H1055,(by show _=_;rcases hfa2 with ha2e | ⟨_,_,ha2e⟩<;>subst ha2e<;>kernel_rfl),(HP.pick hH [0] rfl)⟩⟩
    refine rgS ⟨[(4,.loc 4 0),(5,Zd false r1),(6,a2),(7,iv m511),(8,.loc 8 0)],[(4,[Zd true [],Zd true []]),(8,(Ze a0_.Odd))],H3⟩ Zb.f (by rcases hfa2 with ha2e | ⟨_,_,ha2e⟩<;>subst ha2e<;>kernel_rfl) ?_
    refine bn ?_
    obtain rfl:=Zc h
    exact ⟨rfl,⟨a2,false,H3,(by show _=_;rcases hfa2 with ha2e | ⟨_,_,ha2e⟩<;>subst ha2e<;>kernel_rfl),(HP.pick hH [0] rfl)⟩⟩
   clear hj1018
   rintro s hR
   obtain ⟨a1015,f1016,H1017,rfl,hH⟩:=hR
   replace hH:HP H1017 [.arr a1015 10 false (List.map Zf l4)]:=hH
   have hfa1015:=Zu (HP.get hH 0 rfl)
   obtain ⟨e1056,he1056,h⟩:=bs h
   obtain ⟨id1057,ver1058,_,hid1057f,hid1057,hid1057a,hid1057v⟩:=HP.elem (k:=0) (a:=a1015) (sz:=10) (frz:=false) Zf hH rfl he1056
   obtain ⟨H1059,hH1059,hH⟩:=HP.setRow (k:=0) (off:=0) (cs:=[iv j1018.1,iv j1018.2.1,iv j1018.2.2.1,iv j1018.2.2.2.1,iv j1018.2.2.2.2.1,iv j1018.2.2.2.2.2.1,iv j1018.2.2.2.2.2.2.1,iv j1018.2.2.2.2.2.2.2.1,iv j1018.2.2.2.2.2.2.2.2.1,Zl f1016 j1018.2.2.2.2.2.2.2.2.2]) (ps:=[.int .i64 j1018.1,.int .i64 j1018.2.1,.int .i64 j1018.2.2.1,.int .i64 j1018.2.2.2.1,.int .i64 j1018.2.2.2.2.1,.int .i64 j1018.2.2.2.2.2.1,.int .i64 j1018.2.2.2.2.2.2.1,.int .i64 j1018.2.2.2.2.2.2.2.1,.int .i64 j1018.2.2.2.2.2.2.2.2.1,.sl 1 false (List.map (eSl 1 eI64) j1018.2.2.2.2.2.2.2.2.2)]) (e':=(Zm.mk j1018.1 j1018.2.1 j1018.2.2.1 j1018.2.2.2.1 j1018.2.2.2.2.1 j1018.2.2.2.2.2.1 (Zbv.mk j1018.2.2.2.2.2.2.1 j1018.2.2.2.2.2.2.2.1) j1018.2.2.2.2.2.2.2.2.1 j1018.2.2.2.2.2.2.2.2.2)) Zf hH rfl hid1057a hid1057 (hid1057f rfl) he1056 (by kernel_rfl) (by kernel_rfl)
   replace hH:HP H1059 [.arr a1015 10 false (List.map Zf (List.set l4 (Int.toNat m511) (Zm.mk j1018.1 j1018.2.1 j1018.2.2.1 j1018.2.2.2.1 j1018.2.2.2.2.1 j1018.2.2.2.2.2.1 (Zbv.mk j1018.2.2.2.2.2.2.1 j1018.2.2.2.2.2.2.2.1) j1018.2.2.2.2.2.2.2.2.1 j1018.2.2.2.2.2.2.2.2.2)))]:=hH
   refine rgS ⟨[(4,.loc 4 0),(5,Zd false r1),(6,a1015)],[(4,[Zd true [],Zd true []])],H1059⟩ (Zb.u 3 (Zo (ys:=[a1015,iv m511]) (by rcases hfa1015 with ha1015e | ⟨_,_,ha1015e⟩<;>subst ha1015e<;>kernel_rfl) (hid1057v .i64)) (Zb.o 0 (ZaD (H:=H1017) (v:=.agg [iv j1018.1,iv j1018.2.1,iv j1018.2.2.1,iv j1018.2.2.2.1,iv j1018.2.2.2.2.1,iv j1018.2.2.2.2.2.1,iv j1018.2.2.2.2.2.2.1,iv j1018.2.2.2.2.2.2.2.1,iv j1018.2.2.2.2.2.2.2.2.1,Zl f1016 j1018.2.2.2.2.2.2.2.2.2]) (hw:=hH1059)) Zb.f)) (by rcases hfa1015 with ha1015e | ⟨_,_,ha1015e⟩<;>subst ha1015e<;>kernel_rfl) ?_
   obtain rfl:=Zc h
   exact ⟨rfl,⟨a1015,H1059,(by show _=_;rcases hfa1015 with ha1015e | ⟨_,_,ha1015e⟩<;>subst ha1015e<;>kernel_rfl),(HP.pick hH [0] rfl)⟩⟩
  refine sk ?_
  obtain rfl:=Zc h
  exact ⟨rfl,⟨a2,H3,(by show _=_;rcases hfa2 with ha2e | ⟨_,_,ha2e⟩<;>subst ha2e<;>kernel_rfl),(HP.pick hH [0] rfl)⟩⟩
 clear hj507
 rintro s hR
 obtain ⟨a505,H506,rfl,hH⟩:=hR
 replace hH:HP H506 [.arr a505 10 false (List.map Zf j507)]:=hH
 have hfa505:=Zu (HP.get hH 0 rfl)
 refine sq (rgS ⟨[(4,.loc 4 0)],[(4,[Zd false r1,a505])],H506⟩ (Zb.f (h:=(by rcases hfa505 with ha505e | ⟨_,_,ha505e⟩<;>subst ha505e<;>kernel_rfl))) (by rcases hfa505 with ha505e | ⟨_,_,ha505e⟩<;>subst ha505e<;>kernel_rfl) ?_)
 refine tq (rt ?_)
 obtain rfl:=Zc h
 exact ZdO (H:=H506) (ys:=[.agg [Zd false r1,a505]]) (xs:=[.agg [Zd false r1,.p (.sl 10 false (List.map Zf j507))]]) (by rcases hfa505 with ha505e | ⟨_,_,ha505e⟩<;>subst ha505e<;>kernel_rfl) (by rcases hfa505 with ha505e | ⟨_,_,ha505e⟩<;>subst ha505e<;>kernel_rfl) (ZaU (Zjj (Zbh rfl (Zbh (HP.pure (k:=0) (frz:=false) Zf hH rfl).1 Zjl))) ZbM) (by kernel_rfl)
theorem Zj4 (N:Nat) (a0_:Zi) (a1_:(List Int)) (a2_:(List Int)) (r:Bool × Int) (h:ZcP N a0_ a1_ a2_=some r):Zal Try.prog 67 [.agg (Za a0_),Zk false a1_,Zk false a2_] (.tup [bv r.1,iv r.2]):=by
 unfold ZcP at h
 have hH:HP ([]:List HO) []:=trivial
 refine ZF chk67 rfl rfl (Zv _ _ _ ?_) rfl
 refine sq ?_
 obtain ⟨id1,H2,hid1,hH2,hH⟩:=HP.newCell hH [Zk false a1_]
 replace hH:HP H2 [.cel id1 [Zk false a1_]]:=hH
 obtain ⟨id3,H4,hid3,hH4,hH⟩:=HP.newCell hH [Zk false a2_]
 replace hH:HP H4 [.cel id3 [Zk false a2_],.cel id1 [Zk false a1_]]:=hH
 refine rg (Zb.h 1 (Zdi (H:=[]) (v:=Zk false a1_) (hid:=hid1) (hH:=hH2)) (Zb.h 0 (Zdi (H:=H2) (v:=Zk false a2_) (hid:=hid3) (hH:=hH4)) Zb.f)) (tq ?_)
 refine sq ?_
 have hlc5:=HP.get hH 1 rfl
 obtain ⟨r6,hr6,h⟩:=bs h
 have hvr6:=(ZhU N a0_ a1_ (fun x0=>ZcY N x0 a2_ a1_)   85 [] [.ptr id3 0,.ptr id1 0] (by kernel_rfl) [.cel id3 [Zk false a2_],.cel id1 [Zk false a1_]] (fun H x0 r hH h=>ZfN.of (by kernel_rfl) (ZiC N  x0 a2_ a1_ id3 id1 H hH r h)) H4 (HP.now (HP.pick hH [0,1] rfl)) r6 hr6)
 refine rg (Zb.u 1 (ZA (H:=H4) (id:=id1) (off:=0) (cs:=[Zk false a1_]) (c:=[Zk false a1_]) (r:=Zk false a1_) (hl:=hlc5)) (Zb.v 1 (Zgu (H:=H4) (ys:=[.agg (Za a0_),Zk false a1_,.fn 85 [] [.ptr id3 0,.ptr id1 0]]) (by kernel_rfl) (by kernel_rfl) (by kernel_rfl) hvr6) Zb.f)) ?_
 replace hH:HP H4 []:=HP.pick hH [] rfl
 refine tq (rt ?_)
 obtain rfl:=Zc h
 exact ZC (by kernel_rfl)
theorem Zk3 (N:Nat) (a0_:Zi) (a1_:(List Int)) (r:Int × Int × Int) (h:ZcX N a0_ a1_=some r):Zal Try.prog 83 [.agg (Za a0_),Zk false a1_] (.tup [iv r.1,iv r.2.1,iv r.2.2]):=by
 unfold ZcX at h
 have hH:HP ([]:List HO) []:=trivial
 refine ZF chk83 rfl rfl (Zv _ _ _ ?_) rfl
 refine sq (rg Zb.f ?_)
 refine tq (sq ?_)
 obtain ⟨r1,hr1,h⟩:=bs h
 refine rg (Zb.v 2 (Zs (hc:=Zj0 N a0_ a1_ r1 hr1)) Zb.f) (tq ?_)
 refine sq (sq ?_)
 refine rg Zb.f (tq ?_)
 refine it h (fun hc2 h => ?_) (fun hc2 h => ?_)
 ·refine sq (rg Zb.f ?_)
  refine tq (rt ?_)
  refine tr ?_
  obtain rfl:=Zc h
  exact ZC (by kernel_rfl)
 refine sk (tq ?_)
 refine kq (sq ?_)
 obtain ⟨e3,he3,h⟩:=bs h
 obtain ⟨e4,he4,h⟩:=bs h
 refine rq (Zb.u 1 (Zo (ys:=[Zk false r1.1,iv 0]) (h:=Zg eI64 he3)) (Zb.u 0 (Zw (Zq (sz:=1) (off:=0) (cs:=[.int .i64 e3]) (r:=iv e3) eI64 he3)) (Zb.u 2 (Zo (ys:=[Zk false r1.1]) (h:=ZB eI64)) (Zb.u 1 (Zo (ys:=[Zk false r1.1,iv (w64 (((List.length r1.1:Nat):Int) - 1))]) (h:=Zg eI64 he4)) (Zb.u 0 (Zw (Zq (sz:=1) (off:=0) (cs:=[.int .i64 e4]) (r:=iv e4) eI64 he4)) Zb.f))))) (tq ?_)
 refine rt ?_
 obtain rfl:=Zc h
 exact ZC (by kernel_rfl)
theorem Zi0 (N:Nat) (a0_:Zi) (a1_:(List Int)) (a2_:Int) (a3_:Int) (r:Bool) (h:Zea N a0_ a1_ a2_ a3_=some r):Zal Try.prog 65 [.agg (Za a0_),Zk false a1_,iv a2_,iv a3_] (bv r):=by
 unfold Zea at h
 have hH:HP ([]:List HO) []:=trivial
 refine ZF chk65 rfl rfl (Zv _ _ _ ?_) rfl
 refine sq (rg Zb.f ?_)
 refine tq (sq ?_)
 obtain ⟨r1,hr1,h⟩:=bs h
 refine rg (Zb.v 2 (Zs (hc:=Zk3 N a0_ a1_ r1 hr1)) Zb.f) (tq ?_)
 refine sq (rgX ⟨[(8,bv ((r1.2.2==0)&&((r1.1==a2_)&&(r1.2.1==a3_))))],[],[]⟩ ?_ ?_)
 ·rcases Bool.eq_false_or_eq_true (r1.2.2==0) with hc2 | hc5
  ·refine (EP.u 1 (Zj (c:=(r1.2.2==0)) (h:=hc2)) ?_)
   rcases Bool.eq_false_or_eq_true (r1.1==a2_) with hc3 | hc4
   ·exact (EP.u 3 (Zj (c:=(r1.1==a2_)) (h:=hc3)) (EP.f (by simp only [hc2,hc3];kernel_rfl)))
   exact (EP.u 3 (Zj (c:=(r1.1==a2_)) (h:=hc4)) (EP.f (by simp only [hc2,hc4];kernel_rfl)))
  exact (EP.u 1 (Zj (c:=(r1.2.2==0)) (h:=hc5)) (EP.f (by simp only [hc5];kernel_rfl)))
 refine tq (rt ?_)
 obtain rfl:=Zc h
 exact ZC (by kernel_rfl)
theorem ZhH (N:Nat) (c0_:Zm) (c1_:Zi) (k0_:Nat) (k1_:Nat) (H:List HO) (hH:HP H [.cel k0_ (Ze c0_),.cel k1_ (Za c1_)]) (r:Bool) (h:Zc7 N c0_ c1_=some r):ZbG Try.prog 66 [.ptr k0_ 0,.ptr k1_ 0] H (bv r) H:=by
 unfold Zc7 at h
 refine ZbB chk66 rfl rfl rfl (Zv _ _ _ ?_)
 refine sq (rg Zb.f ?_)
 refine tq (sq ?_)
 refine sq ?_
 have hlc1:=HP.get hH 0 rfl
 refine rg (Zb.u 1 (ZA (H:=H) (id:=k0_) (off:=9) (cs:=(Ze c0_)) (c:=[Zl false c0_.Routes]) (r:=Zl false c0_.Routes) (hl:=hlc1)) (Zb.u 0 (Zo (ys:=[Zl false c0_.Routes]) (h:=ZB (eSl 1 eI64))) Zb.f)) (tq ?_)
 refine it h (fun hc2 h => ?_) (fun hc2 h => ?_)
 ·refine sq (rg Zb.f ?_)
  replace hH:HP H []:=HP.pick hH [] rfl
  refine tq (rt ?_)
  refine tr ?_
  obtain rfl:=Zc h
  exact Za1 (by kernel_rfl) (by kernel_rfl)
 refine sk (tq ?_)
 refine kq (sq ?_)
 have hlc3:=HP.get hH 1 rfl
 have hlc4:=HP.get hH 0 rfl
 obtain ⟨e5,he5,h⟩:=bs h
 have hlc6:=HP.get hH 0 rfl
 obtain ⟨e7,he7,h⟩:=bs h
 obtain ⟨r8,hr8,h⟩:=bs h
 refine rq (Zb.u 0 (Zw (ZA (H:=H) (id:=k1_) (off:=0) (cs:=(Za c1_)) (c:=(Za c1_)) (r:=.agg (Za c1_)) (hl:=hlc3))) (Zb.u 1 (Zw (ZA (H:=H) (id:=k0_) (off:=9) (cs:=(Ze c0_)) (c:=[Zl false c0_.Routes]) (r:=Zl false c0_.Routes) (hl:=hlc4))) (Zb.u 0 (Zo (ys:=[Zl false c0_.Routes,iv 0]) (h:=Zg (eSl 1 eI64) he5)) (Zb.u 0 (Zw (Zq (sz:=1) (off:=0) (cs:=[.sl 1 false (List.map eI64 e5)]) (r:=Zk false e5) (eSl 1 eI64) he5)) (Zb.u 1 (Zw (ZA (H:=H) (id:=k0_) (off:=9) (cs:=(Ze c0_)) (c:=[Zl false c0_.Routes]) (r:=Zl false c0_.Routes) (hl:=hlc6))) (Zb.u 0 (Zo (ys:=[Zl false c0_.Routes,iv 1]) (h:=Zg (eSl 1 eI64) he7)) (Zb.u 0 (Zw (Zq (sz:=1) (off:=0) (cs:=[.sl 1 false (List.map eI64 e7)]) (r:=Zk false e7) (eSl 1 eI64) he7)) (Zb.v 0 (Zs (hc:=Zj4 N c1_ e5 e7 r8 hr8)) Zb.f)))))))) ?_
 replace hH:HP H []:=HP.pick hH [] rfl
 refine tq (sq ?_)
 refine rgX ⟨[(2,bv ((r8.2==0)&&r8.1))],[],H⟩ ?_ ?_
 ·rcases Bool.eq_false_or_eq_true (r8.2==0) with hc9 | hc10
  ·exact (EP.u 1 (Zj (c:=(r8.2==0)) (h:=hc9)) (EP.f (by simp only [hc9];kernel_rfl)))
  exact (EP.u 1 (Zj (c:=(r8.2==0)) (h:=hc10)) (EP.f (by simp only [hc10];kernel_rfl)))
 refine tq (rt ?_)
 obtain rfl:=Zc h
 exact Za1 (by kernel_rfl) (by kernel_rfl)
theorem ZhJ (N:Nat) (c0_:Zm) (c1_:Zi) (k0_:Nat) (k1_:Nat) (H:List HO) (hH:HP H [.cel k0_ (Ze c0_),.cel k1_ (Za c1_)]) (r:Bool) (h:Zc8 N c0_ c1_=some r):ZbG Try.prog 64 [.ptr k0_ 0,.ptr k1_ 0] H (bv r) H:=by
 unfold Zc8 at h
 refine ZbB chk64 rfl rfl rfl (Zv _ _ _ ?_)
 refine sq (rg Zb.f ?_)
 refine tq (sq ?_)
 refine sq ?_
 have hlc1:=HP.get hH 0 rfl
 refine rg (Zb.u 1 (ZA (H:=H) (id:=k0_) (off:=9) (cs:=(Ze c0_)) (c:=[Zl false c0_.Routes]) (r:=Zl false c0_.Routes) (hl:=hlc1)) (Zb.u 0 (Zo (ys:=[Zl false c0_.Routes]) (h:=ZB (eSl 1 eI64))) Zb.f)) (tq ?_)
 refine bk ?_
 obtain ⟨o510,ho510,h⟩:=bs h
 refine Z8 ((ZT (fun (x:Int) s=>s=⟨[(0,.ptr k0_ 0),(1,.ptr k1_ 0),(6,Zl false c0_.Routes),(7,iv ((List.length c0_.Routes:Nat):Int)),(8,iv x)],[],H⟩) (fun x:Int=>Zbf N c0_ c1_ x) (fun (p:(Unit) ⊕ (Bool)) e s=>match p with | (.inl p)=>e = .exit 0∧(s=⟨[],[],H⟩) | (.inr p)=>e = .ret∧∃ xs,rawL s i64.res=some xs∧Zbr (weakVs xs)=bv p∧s.H=H) ?_ N _ o510 _ ho510 (by show _=_;kernel_rfl)).mono ?_)
 ·clear h ho510
  rintro i2 o s h hR
  obtain rfl:=hR
  replace h:Zbf N c0_ c1_ i2=some o:=h
  unfold Zbf at h
  refine sq (rg Zb.f ?_)
  refine tq (sq ?_)
  refine it h (fun hc503 h => ?_) (fun hc503 h => ?_)
  ·refine sk (tq ?_)
   refine kq (sq ?_)
   refine bk (sq ?_)
   obtain ⟨e504,he504,h⟩:=bs h
   refine rg (Zb.u 0 (Zo (ys:=[Zl false c0_.Routes,iv i2]) (h:=Zg (eSl 1 eI64) he504)) (Zb.u 0 (Zq (sz:=1) (off:=0) (cs:=[.sl 1 false (List.map eI64 e504)]) (r:=Zk false e504) (eSl 1 eI64) he504) Zb.f)) (tq ?_)
   refine sq ?_
   have hlc505:=HP.get hH 1 rfl
   have hlc506:=HP.get hH 0 rfl
   have hlc507:=HP.get hH 0 rfl
   obtain ⟨r508,hr508,h⟩:=bs h
   refine rg (Zb.u 0 (ZA (H:=H) (id:=k1_) (off:=0) (cs:=(Za c1_)) (c:=(Za c1_)) (r:=.agg (Za c1_)) (hl:=hlc505)) (Zb.u 2 (ZA (H:=H) (id:=k0_) (off:=1) (cs:=(Ze c0_)) (c:=[iv c0_.Talker]) (r:=iv c0_.Talker) (hl:=hlc506)) (Zb.u 1 (ZA (H:=H) (id:=k0_) (off:=2) (cs:=(Ze c0_)) (c:=[iv c0_.Listener]) (r:=iv c0_.Listener) (hl:=hlc507)) (Zb.v 0 (Zs (hc:=Zi0 N c1_ e504 c0_.Talker c0_.Listener r508 hr508)) Zb.f)))) (tq ?_)
   refine it h (fun hc509 h => ?_) (fun hc509 h => ?_)
   ·refine sq (rg Zb.f ?_)
    replace hH:HP H []:=HP.pick hH [] rfl
    refine tq (rt ?_)
    refine br (tr ?_)
    obtain rfl:=Zc h
    exact ⟨_,rfl,rfl,Za1 (by kernel_rfl) (by kernel_rfl)⟩
   refine sk (bn ?_)
   refine tq (kq ?_)
   refine rg Zb.f ?_
   obtain rfl:=Zc h
   exact ⟨_,rfl,(by show _=_;kernel_rfl)⟩
  refine kq ?_
  replace hH:HP H []:=HP.pick hH [] rfl
  refine xq (tx ?_)
  obtain rfl:=Zc h
  exact ⟨_,rfl,rfl,(by show _=_;kernel_rfl)⟩
 rintro e s hq
 rcases o510 with p511 | p512
 ·dsimp only at h hq
  obtain ⟨rfl,hR⟩:=hq
  obtain rfl:=hR
  refine bx (tq ?_)
  refine sq (rg Zb.f ?_)
  refine tq (rt ?_)
  obtain rfl:=Zc h
  exact Za1 (by kernel_rfl) (by kernel_rfl)
 dsimp only at h hq
 obtain ⟨rfl,hq⟩:=hq
 refine br (tr ?_)
 obtain rfl:=Zc h
 exact hq
theorem ZeD (N:Nat) (a0_:Zi) (a1_:Zm) (r:Bool) (h:ZcM N a0_ a1_=some r):Zal Try.prog 39 [.agg (Za a0_),.agg (Ze a1_)] (bv r):=by
 unfold ZcM at h
 have hH:HP ([]:List HO) []:=trivial
 refine ZF chk39 rfl rfl (Zv _ _ _ ?_) rfl
 refine sq ?_
 obtain ⟨id1,H2,hid1,hH2,hH⟩:=HP.newCell hH (Za a0_)
 replace hH:HP H2 [.cel id1 (Za a0_)]:=hH
 obtain ⟨id3,H4,hid3,hH4,hH⟩:=HP.newCell hH (Ze a1_)
 replace hH:HP H4 [.cel id3 (Ze a1_),.cel id1 (Za a0_)]:=hH
 refine rg (Zb.h 0 (Zdi (H:=[]) (v:=.agg (Za a0_)) (hid:=hid1) (hH:=hH2)) (Zb.h 0 (Zdi (H:=H2) (v:=.agg (Ze a1_)) (hid:=hid3) (hH:=hH4)) Zb.f)) (tq ?_)
 refine sq ?_
 obtain ⟨id5,H6,hid5,hH6,hH⟩:=HP.newCell hH [.fn 56 [] [.ptr id3 0],.fn 57 [] [.ptr id1 0,.ptr id3 0],.fn 59 [] [.ptr id3 0],.fn 60 [] [.ptr id3 0],.fn 61 [] [.ptr id3 0],.fn 63 [] [.ptr id3 0],.fn 64 [] [.ptr id3 0,.ptr id1 0],.fn 66 [] [.ptr id3 0,.ptr id1 0]]
 replace hH:HP H6 [.cel id5 [.fn 56 [] [.ptr id3 0],.fn 57 [] [.ptr id1 0,.ptr id3 0],.fn 59 [] [.ptr id3 0],.fn 60 [] [.ptr id3 0],.fn 61 [] [.ptr id3 0],.fn 63 [] [.ptr id3 0],.fn 64 [] [.ptr id3 0,.ptr id1 0],.fn 66 [] [.ptr id3 0,.ptr id1 0]],.cel id3 (Ze a1_),.cel id1 (Za a0_)]:=hH
 refine rg (Zb.h 8 (st_litC (H:=H4) (ys:=[.fn 56 [] [.ptr id3 0],.fn 57 [] [.ptr id1 0,.ptr id3 0],.fn 59 [] [.ptr id3 0],.fn 60 [] [.ptr id3 0],.fn 61 [] [.ptr id3 0],.fn 63 [] [.ptr id3 0],.fn 64 [] [.ptr id3 0,.ptr id1 0],.fn 66 [] [.ptr id3 0,.ptr id1 0]]) (by kernel_rfl) (by kernel_rfl) (by kernel_rfl) hid5 hH6) Zb.f) (tq ?_)
 refine sq (sq ?_)
 refine rg Zb.f (tq ?_)
 refine bk (Zdu 18 ?_)
 refine Z5 ?_
 refine sq (rg Zb.f ?_)
 refine tq (sq ?_)
 refine ZaP (by kernel_rfl) ?_
 refine sk (tq ?_)
 refine kq (sq ?_)
 refine bk (sq ?_)
 have hlc7:=HP.get hH 0 rfl
 refine rg (Zb.u 1 (ZA (H:=H6) (id:=id5) (off:=0) (cs:=[.fn 56 [] [.ptr id3 0],.fn 57 [] [.ptr id1 0,.ptr id3 0],.fn 59 [] [.ptr id3 0],.fn 60 [] [.ptr id3 0],.fn 61 [] [.ptr id3 0],.fn 63 [] [.ptr id3 0],.fn 64 [] [.ptr id3 0,.ptr id1 0],.fn 66 [] [.ptr id3 0,.ptr id1 0]]) (c:=[.fn 56 [] [.ptr id3 0]]) (r:=.fn 56 [] [.ptr id3 0]) (hl:=hlc7)) Zb.f) (tq ?_)
 refine sq ?_
 obtain ⟨r8,hr8,h⟩:=bs h
 have hvr8:=(ZhQ N  a1_ id3 H6 (HP.now (HP.pick hH [1] rfl)) r8 hr8)
 refine rg (Zb.v 1 (ZcI (H:=H6) (fv:=.fn 56 [] [.ptr id3 0]) (ys:=[]) (hc:=ZfN.of (by kernel_rfl) hvr8)) Zb.f) (tq ?_)
 refine it h (fun hc9 h => ?_) (fun hc9 h => ?_)
 ·refine sq (rg Zb.f ?_)
  replace hH:HP H6 []:=HP.pick hH [] rfl
  refine tq (rt ?_)
  refine br (tr ?_)
  refine tr (br ?_)
  refine tr ?_
  obtain rfl:=Zc h
  exact ZC (by kernel_rfl)
 refine sk (bn ?_)
 refine tq (kq ?_)
 refine rg Zb.f (tq ?_)
 refine Z5 ?_
 refine sq (rg Zb.f ?_)
 refine tq (sq ?_)
 refine ZaP (by kernel_rfl) ?_
 refine sk (tq ?_)
 refine kq (sq ?_)
 refine bk (sq ?_)
 have hlc10:=HP.get hH 0 rfl
 refine rg (Zb.u 1 (ZA (H:=H6) (id:=id5) (off:=1) (cs:=[.fn 56 [] [.ptr id3 0],.fn 57 [] [.ptr id1 0,.ptr id3 0],.fn 59 [] [.ptr id3 0],.fn 60 [] [.ptr id3 0],.fn 61 [] [.ptr id3 0],.fn 63 [] [.ptr id3 0],.fn 64 [] [.ptr id3 0,.ptr id1 0],.fn 66 [] [.ptr id3 0,.ptr id1 0]]) (c:=[.fn 57 [] [.ptr id1 0,.ptr id3 0]]) (r:=.fn 57 [] [.ptr id1 0,.ptr id3 0]) (hl:=hlc10)) Zb.f) (tq ?_)
 refine sq ?_
 obtain ⟨r11,hr11,h⟩:=bs h
 have hvr11:=(ZhP N  a0_ a1_ id1 id3 H6 (HP.now (HP.pick hH [2,1] rfl)) r11 hr11)
 refine rg (Zb.v 1 (ZcI (H:=H6) (fv:=.fn 57 [] [.ptr id1 0,.ptr id3 0]) (ys:=[]) (hc:=ZfN.of (by kernel_rfl) hvr11)) Zb.f) (tq ?_)
 refine it h (fun hc12 h => ?_) (fun hc12 h => ?_)
 ·refine sq (rg Zb.f ?_)
  replace hH:HP H6 []:=HP.pick hH [] rfl
  refine tq (rt ?_)
  refine br (tr ?_)
  refine tr (br ?_)
  refine tr ?_
  obtain rfl:=Zc h
  exact ZC (by kernel_rfl)
 refine sk (bn ?_)
 refine tq (kq ?_)
 refine rg Zb.f (tq ?_)
 refine Z5 ?_
 refine sq (rg Zb.f ?_)
 refine tq (sq ?_)
 refine ZaP (by kernel_rfl) ?_
 refine sk (tq ?_)
 refine kq (sq ?_)
 refine bk (sq ?_)
 have hlc13:=HP.get hH 0 rfl
 refine rg (Zb.u 1 (ZA (H:=H6) (id:=id5) (off:=2) (cs:=[.fn 56 [] [.ptr id3 0],.fn 57 [] [.ptr id1 0,.ptr id3 0],.fn 59 [] [.ptr id3 0],.fn 60 [] [.ptr id3 0],.fn 61 [] [.ptr id3 0],.fn 63 [] [.ptr id3 0],.fn 64 [] [.ptr id3 0,.ptr id1 0],.fn 66 [] [.ptr id3 0,.ptr id1 0]]) (c:=[.fn 59 [] [.ptr id3 0]]) (r:=.fn 59 [] [.ptr id3 0]) (hl:=hlc13)) Zb.f) (tq ?_)
 refine sq ?_
 obtain ⟨r14,hr14,h⟩:=bs h
 have hvr14:=(ZhO N  a1_ id3 H6 (HP.now (HP.pick hH [1] rfl)) r14 hr14)
 refine rg (Zb.v 1 (ZcI (H:=H6) (fv:=.fn 59 [] [.ptr id3 0]) (ys:=[]) (hc:=ZfN.of (by kernel_rfl) hvr14)) Zb.f) (tq ?_)
 refine it h (fun hc15 h => ?_) (fun hc15 h => ?_)
 ·refine sq (rg Zb.f ?_)
  replace hH:HP H6 []:=HP.pick hH [] rfl
  refine tq (rt ?_)
  refine br (tr ?_)
  refine tr (br ?_)
  refine tr ?_
  obtain rfl:=Zc h
  exact ZC (by kernel_rfl)
 refine sk (bn ?_)
 refine tq (kq ?_)
 refine rg Zb.f (tq ?_)
 refine Z5 ?_
 refine sq (rg Zb.f ?_)
 refine tq (sq ?_)
 refine ZaP (by kernel_rfl) ?_
 refine sk (tq ?_)
 refine kq (sq ?_)
 refine bk (sq ?_)
 have hlc16:=HP.get hH 0 rfl
 refine rg (Zb.u 1 (ZA (H:=H6) (id:=id5) (off:=3) (cs:=[.fn 56 [] [.ptr id3 0],.fn 57 [] [.ptr id1 0,.ptr id3 0],.fn 59 [] [.ptr id3 0],.fn 60 [] [.ptr id3 0],.fn 61 [] [.ptr id3 0],.fn 63 [] [.ptr id3 0],.fn 64 [] [.ptr id3 0,.ptr id1 0],.fn 66 [] [.ptr id3 0,.ptr id1 0]]) (c:=[.fn 60 [] [.ptr id3 0]]) (r:=.fn 60 [] [.ptr id3 0]) (hl:=hlc16)) Zb.f) (tq ?_)
 refine sq ?_
 obtain ⟨r17,hr17,h⟩:=bs h
 have hvr17:=(ZhN N  a1_ id3 H6 (HP.now (HP.pick hH [1] rfl)) r17 hr17)
 refine rg (Zb.v 1 (ZcI (H:=H6) (fv:=.fn 60 [] [.ptr id3 0]) (ys:=[]) (hc:=ZfN.of (by kernel_rfl) hvr17)) Zb.f) (tq ?_)
 refine it h (fun hc18 h => ?_) (fun hc18 h => ?_)
 ·refine sq (rg Zb.f ?_)
  replace hH:HP H6 []:=HP.pick hH [] rfl
  refine tq (rt ?_)
  refine br (tr ?_)
  refine tr (br ?_)
  refine tr ?_
  obtain rfl:=Zc h
  exact ZC (by kernel_rfl)
 refine sk (bn ?_)
 refine tq (kq ?_)
 refine rg Zb.f (tq ?_)
 refine Z5 ?_
 refine sq (rg Zb.f ?_)
 refine tq (sq ?_)
 refine ZaP (by kernel_rfl) ?_
 refine sk (tq ?_)
 refine kq (sq ?_)
 refine bk (sq ?_)
 have hlc19:=HP.get hH 0 rfl
 refine rg (Zb.u 1 (ZA (H:=H6) (id:=id5) (off:=4) (cs:=[.fn 56 [] [.ptr id3 0],.fn 57 [] [.ptr id1 0,.ptr id3 0],.fn 59 [] [.ptr id3 0],.fn 60 [] [.ptr id3 0],.fn 61 [] [.ptr id3 0],.fn 63 [] [.ptr id3 0],.fn 64 [] [.ptr id3 0,.ptr id1 0],.fn 66 [] [.ptr id3 0,.ptr id1 0]]) (c:=[.fn 61 [] [.ptr id3 0]]) (r:=.fn 61 [] [.ptr id3 0]) (hl:=hlc19)) Zb.f) (tq ?_)
 refine sq ?_
 obtain ⟨r20,hr20,h⟩:=bs h
 have hvr20:=(ZhM N  a1_ id3 H6 (HP.now (HP.pick hH [1] rfl)) r20 hr20)
 refine rg (Zb.v 1 (ZcI (H:=H6) (fv:=.fn 61 [] [.ptr id3 0]) (ys:=[]) (hc:=ZfN.of (by kernel_rfl) hvr20)) Zb.f) (tq ?_)
 refine it h (fun hc21 h => ?_) (fun hc21 h => ?_)
 ·refine sq (rg Zb.f ?_)
  replace hH:HP H6 []:=HP.pick hH [] rfl
  refine tq (rt ?_)
  refine br (tr ?_)
  refine tr (br ?_)
  refine tr ?_
  obtain rfl:=Zc h
  exact ZC (by kernel_rfl)
 refine sk (bn ?_)
 refine tq (kq ?_)
 refine rg Zb.f (tq ?_)
 refine Z5 ?_
 refine sq (rg Zb.f ?_)
 refine tq (sq ?_)
 refine ZaP (by kernel_rfl) ?_
 refine sk (tq ?_)
 refine kq (sq ?_)
 refine bk (sq ?_)
 have hlc22:=HP.get hH 0 rfl
 refine rg (Zb.u 1 (ZA (H:=H6) (id:=id5) (off:=5) (cs:=[.fn 56 [] [.ptr id3 0],.fn 57 [] [.ptr id1 0,.ptr id3 0],.fn 59 [] [.ptr id3 0],.fn 60 [] [.ptr id3 0],.fn 61 [] [.ptr id3 0],.fn 63 [] [.ptr id3 0],.fn 64 [] [.ptr id3 0,.ptr id1 0],.fn 66 [] [.ptr id3 0,.ptr id1 0]]) (c:=[.fn 63 [] [.ptr id3 0]]) (r:=.fn 63 [] [.ptr id3 0]) (hl:=hlc22)) Zb.f) (tq ?_)
 refine sq ?_
 obtain ⟨r23,hr23,h⟩:=bs h
 have hvr23:=(ZhL N  a1_ id3 H6 (HP.now (HP.pick hH [1] rfl)) r23 hr23)
 refine rg (Zb.v 1 (ZcI (H:=H6) (fv:=.fn 63 [] [.ptr id3 0]) (ys:=[]) (hc:=ZfN.of (by kernel_rfl) hvr23)) Zb.f) (tq ?_)
 refine it h (fun hc24 h => ?_) (fun hc24 h => ?_)
 ·refine sq (rg Zb.f ?_)
  replace hH:HP H6 []:=HP.pick hH [] rfl
  refine tq (rt ?_)
  refine br (tr ?_)
  refine tr (br ?_)
  refine tr ?_
  obtain rfl:=Zc h
  exact ZC (by kernel_rfl)
 refine sk (bn ?_)
 refine tq (kq ?_)
 refine rg Zb.f (tq ?_)
 refine Z5 ?_
 refine sq (rg Zb.f ?_)
 refine tq (sq ?_)
 refine ZaP (by kernel_rfl) ?_
 refine sk (tq ?_)
 refine kq (sq ?_)
 refine bk (sq ?_)
 have hlc25:=HP.get hH 0 rfl
 refine rg (Zb.u 1 (ZA (H:=H6) (id:=id5) (off:=6) (cs:=[.fn 56 [] [.ptr id3 0],.fn 57 [] [.ptr id1 0,.ptr id3 0],.fn 59 [] [.ptr id3 0],.fn 60 [] [.ptr id3 0],.fn 61 [] [.ptr id3 0],.fn 63 [] [.ptr id3 0],.fn 64 [] [.ptr id3 0,.ptr id1 0],.fn 66 [] [.ptr id3 0,.ptr id1 0]]) (c:=[.fn 64 [] [.ptr id3 0,.ptr id1 0]]) (r:=.fn 64 [] [.ptr id3 0,.ptr id1 0]) (hl:=hlc25)) Zb.f) (tq ?_)
 refine sq ?_
 obtain ⟨r26,hr26,h⟩:=bs h
 have hvr26:=(ZhJ N  a1_ a0_ id3 id1 H6 (HP.now (HP.pick hH [1,2] rfl)) r26 hr26)
 refine rg (Zb.v 1 (ZcI (H:=H6) (fv:=.fn 64 [] [.ptr id3 0,.ptr id1 0]) (ys:=[]) (hc:=ZfN.of (by kernel_rfl) hvr26)) Zb.f) (tq ?_)
 refine it h (fun hc27 h => ?_) (fun hc27 h => ?_)
 ·refine sq (rg Zb.f ?_)
  replace hH:HP H6 []:=HP.pick hH [] rfl
  refine tq (rt ?_)
  refine br (tr ?_)
  refine tr (br ?_)
  refine tr ?_
  obtain rfl:=Zc h
  exact ZC (by kernel_rfl)
 refine sk (bn ?_)
 refine tq (kq ?_)
 refine rg Zb.f (tq ?_)
 refine Z5 ?_
 refine sq (rg Zb.f ?_)
 refine tq (sq ?_)
 refine ZaP (by kernel_rfl) ?_
 refine sk (tq ?_)
 refine kq (sq ?_)
 refine bk (sq ?_)
 have hlc28:=HP.get hH 0 rfl
 refine rg (Zb.u 1 (ZA (H:=H6) (id:=id5) (off:=7) (cs:=[.fn 56 [] [.ptr id3 0],.fn 57 [] [.ptr id1 0,.ptr id3 0],.fn 59 [] [.ptr id3 0],.fn 60 [] [.ptr id3 0],.fn 61 [] [.ptr id3 0],.fn 63 [] [.ptr id3 0],.fn 64 [] [.ptr id3 0,.ptr id1 0],.fn 66 [] [.ptr id3 0,.ptr id1 0]]) (c:=[.fn 66 [] [.ptr id3 0,.ptr id1 0]]) (r:=.fn 66 [] [.ptr id3 0,.ptr id1 0]) (hl:=hlc28)) Zb.f) (tq ?_)
 refine sq ?_
 obtain ⟨r29,hr29,h⟩:=bs h
 have hvr29:=(ZhH N  a1_ a0_ id3 id1 H6 (HP.now (HP.pick hH [1,2] rfl)) r29 hr29)
 refine rg (Zb.v 1 (ZcI (H:=H6) (fv:=.fn 66 [] [.ptr id3 0,.ptr id1 0]) (ys:=[]) (hc:=ZfN.of (by kernel_rfl) hvr29)) Zb.f) (tq ?_)
 refine it h (fun hc30 h => ?_) (fun hc30 h => ?_)
 ·refine sq (rg Zb.f ?_)
  replace hH:HP H6 []:=HP.pick hH [] rfl
  refine tq (rt ?_)
  refine br (tr ?_)
  refine tr (br ?_)
  refine tr ?_
  obtain rfl:=Zc h
  exact ZC (by kernel_rfl)
 refine sk (bn ?_)
 refine tq (kq ?_)
 refine rg Zb.f (tq ?_)
 refine Z5 ?_
 refine sq (rg Zb.f ?_)
 refine tq (sq ?_)
 refine Zdv (by kernel_rfl) ?_
 refine kq ?_
 replace hH:HP H6 []:=HP.pick hH [] rfl
 refine xq (tx ?_)
 refine tx (bx ?_)
 refine tq (sq ?_)
 refine rg Zb.f (tq ?_)
 refine rt ?_
 obtain rfl:=Zc h
 exact ZC (by kernel_rfl)
theorem Zdx (N:Nat) (a0_:Zi) (a1_:Zm) (r:Int) (h:Zba N a0_ a1_=some r):Zal Try.prog 18 [.agg (Za a0_),.agg (Ze a1_)] (iv r):=by
 unfold Zba at h
 have hH:HP ([]:List HO) []:=trivial
 refine ZF chk18 rfl rfl (Zv _ _ _ ?_) rfl
 refine sq (rg Zb.f ?_)
 refine tq (sq ?_)
 refine sq ?_
 obtain ⟨r1,hr1,h⟩:=bs h
 refine rg (Zb.v 1 (Zs (hc:=Zer N a0_ r1 hr1)) Zb.f) (tq ?_)
 refine sq (rg Zb.f ?_)
 refine tq (it h (fun hc2 h => ?_) (fun hc2 h => ?_))
 ·refine sq (rg Zb.f ?_)
  refine tq (rt ?_)
  refine tr ?_
  obtain rfl:=Zc h
  exact ZC (by kernel_rfl)
 refine sk (tq ?_)
 refine kq (sq ?_)
 refine sq ?_
 obtain ⟨r3,hr3,h⟩:=bs h
 refine rg (Zb.v 2 (Zs (hc:=ZeD N a0_ a1_ r3 hr3)) Zb.f) (tq ?_)
 refine it h (fun hc4 h => ?_) (fun hc4 h => ?_)
 ·refine sq (rg Zb.f ?_)
  refine tq (rt ?_)
  refine tr ?_
  obtain rfl:=Zc h
  exact ZC (by kernel_rfl)
 refine sk (tq ?_)
 refine kq (sq ?_)
 refine rg Zb.f (tq ?_)
 refine rt ?_
 obtain rfl:=Zc h
 exact ZC (by kernel_rfl)
theorem Zhe (N:Nat) (a0_:Zi) (a1_:(List Zm)) (r:Int) (h:Zcl N a0_ a1_=some r):Zal Try.prog 19 [.agg (Za a0_),Zd false a1_] (iv r):=by
 unfold Zcl at h
 have hH:HP ([]:List HO) []:=trivial
 refine ZF chk19 rfl rfl (Zv _ _ _ ?_) rfl
 refine sq (rg Zb.f ?_)
 refine tq (sq ?_)
 refine sq ?_
 obtain ⟨r1,hr1,h⟩:=bs h
 refine rg (Zb.v 1 (Zs (hc:=Zer N a0_ r1 hr1)) Zb.f) (tq ?_)
 refine sq (rg Zb.f ?_)
 refine tq (it h (fun hc2 h => ?_) (fun hc2 h => ?_))
 ·refine sq (rg Zb.f ?_)
  refine tq (rt ?_)
  refine tr ?_
  obtain rfl:=Zc h
  exact ZC (by kernel_rfl)
 refine sk (tq ?_)
 refine kq (sq ?_)
 refine sq (rg (Zb.u 1 (Zo (ys:=[Zd false a1_]) (h:=ZB Zf)) Zb.f) ?_)
 refine tq (it h (fun hc3 h => ?_) (fun hc3 h => ?_))
 ·refine sq (rg Zb.f ?_)
  refine tq (rt ?_)
  refine tr ?_
  obtain rfl:=Zc h
  exact ZC (by kernel_rfl)
 refine sk (tq ?_)
 refine kq (sq ?_)
 refine sq (rg (Zb.u 1 (Zo (ys:=[Zd false a1_]) (h:=ZB Zf)) Zb.f) ?_)
 refine tq (bk ?_)
 obtain ⟨o509,ho509,h⟩:=bs h
 refine Z8 ((ZT (fun (x:Int) s=>s=⟨[(1,Zd false a1_),(2,.loc 2 0),(19,Zd false a1_),(20,iv ((List.length a1_:Nat):Int)),(21,iv x)],[(2,(Za a0_))],[]⟩) (fun x:Int=>Za4 N a0_ a1_ x) (fun (p:(Unit) ⊕ (Int)) e s=>match p with | (.inl p)=>e = .exit 0∧(s=⟨[(1,Zd false a1_)],[],[]⟩) | (.inr p)=>e = .ret∧∃ xs,resL s i19.res=some xs∧Zbr xs=iv p) ?_ N _ o509 _ ho509 (by show _=_;kernel_rfl)).mono ?_)
 ·clear h ho509
  rintro i4 o s h hR
  obtain rfl:=hR
  replace h:Za4 N a0_ a1_ i4=some o:=h
  unfold Za4 at h
  refine sq (rg Zb.f ?_)
  refine tq (sq ?_)
  refine it h (fun hc505 h => ?_) (fun hc505 h => ?_)
  ·refine sk (tq ?_)
   refine kq (sq ?_)
   refine bk (sq ?_)
   obtain ⟨e506,he506,h⟩:=bs h
   refine rg (Zb.u 0 (Zo (ys:=[Zd false a1_,iv i4]) (h:=Zg Zf he506)) (Zb.u 0 (Zq (sz:=10) (off:=0) (cs:=[.int .i64 e506.Id,.int .i64 e506.Talker,.int .i64 e506.Listener,.int .i64 e506.Class,.int .i64 e506.Size,.int .i64 e506.Period,.int .i64 e506.Bucket.Burst,.int .i64 e506.Bucket.Rate,.int .i64 e506.Deadline,.sl 1 false (List.map (eSl 1 eI64) e506.Routes)]) (r:=.agg (Ze e506)) Zf he506) Zb.f)) (tq ?_)
   refine sq ?_
   obtain ⟨r507,hr507,h⟩:=bs h
   refine rg (Zb.v 2 (Zs (hc:=ZeD N a0_ e506 r507 hr507)) Zb.f) (tq ?_)
   refine it h (fun hc508 h => ?_) (fun hc508 h => ?_)
   ·refine sq (rg Zb.f ?_)
    refine tq (rt ?_)
    refine br (tr ?_)
    obtain rfl:=Zc h
    exact ⟨_,rfl,rfl,ZC (by kernel_rfl)⟩
   refine sk (bn ?_)
   refine tq (kq ?_)
   refine rg Zb.f ?_
   obtain rfl:=Zc h
   exact ⟨_,rfl,(by show _=_;kernel_rfl)⟩
  refine kq (xq ?_)
  refine tx ?_
  obtain rfl:=Zc h
  exact ⟨_,rfl,rfl,(by show _=_;kernel_rfl)⟩
 rintro e s hq
 rcases o509 with p510 | p1026
 ·dsimp only at h hq
  obtain ⟨rfl,hR⟩:=hq
  obtain rfl:=hR
  refine bx (tq ?_)
  refine sq ?_
  obtain ⟨id511,H512,hid511,hH512,hH⟩:=HP.newMp hH 0
  replace hH:HP H512 [mpT id511 0 (encE ke1 bv [])]:=hH
  refine rg (Zb.h 0 (st_mkMap' (H:=[]) 0 (by kernel_rfl) hid511 hH512) Zb.f) (tq ?_)
  refine sq (sq ?_)
  refine rg (Zb.u 1 (Zo (ys:=[Zd false a1_]) (h:=ZB Zf)) Zb.f) (tq ?_)
  refine bk ?_
  obtain ⟨o1023,ho1023,h⟩:=bs h
  refine Z8 ((ZT (fun (x:Int × (List (Int × Bool))) s=>∃ (H513:List HO),s=⟨[(8,.map id511),(31,Zd false a1_),(32,iv ((List.length a1_:Nat):Int)),(33,iv x.1)],[],H513⟩∧HP H513 [mpT id511 0 (encE ke1 bv x.2)]) (fun x:Int × (List (Int × Bool))=>ZaA N a1_ x.1 x.2) (fun (p:(Unit) ⊕ (Int)) e s=>match p with | (.inl p)=>e = .exit 2∧(∃ (H1016:List HO),s=⟨[],[],H1016⟩∧HP H1016 []) | (.inr p)=>e = .ret∧∃ xs,resL s i19.res=some xs∧Zbr xs=iv p) ?_ N _ o1023 _ ho1023 ⟨H512,(by show _=_;kernel_rfl),(HP.pick hH [0] rfl)⟩).mono ?_)
  ·clear h ho1023
   rintro ⟨i514,l515⟩ o s h hR
   obtain ⟨H513,rfl,hH⟩:=hR
   replace hH:HP H513 [mpT id511 0 (encE ke1 bv l515)]:=hH
   replace h:ZaA N a1_ i514 l515=some o:=h
   unfold ZaA at h
   refine sq (rg Zb.f ?_)
   refine tq (sq ?_)
   refine it h (fun hc1017 h => ?_) (fun hc1017 h => ?_)
   ·refine sk (tq ?_)
    refine kq (sq ?_)
    refine bk (sq ?_)
    obtain ⟨e1018,he1018,h⟩:=bs h
    refine rg (Zb.u 0 (Zo (ys:=[Zd false a1_,iv i514]) (h:=Zg Zf he1018)) (Zb.u 0 (Zq (sz:=10) (off:=0) (cs:=[.int .i64 e1018.Id,.int .i64 e1018.Talker,.int .i64 e1018.Listener,.int .i64 e1018.Class,.int .i64 e1018.Size,.int .i64 e1018.Period,.int .i64 e1018.Bucket.Burst,.int .i64 e1018.Bucket.Rate,.int .i64 e1018.Deadline,.sl 1 false (List.map (eSl 1 eI64) e1018.Routes)]) (r:=.agg (Ze e1018)) Zf he1018) Zb.f)) (tq ?_)
    refine sq (sq ?_)
    have hlm1019:=HP.get hH 0 rfl
    refine rg (Zb.u 3 (st_mapG (H:=H513) (id:=id511) (kn:=0) (ke:=ke1) (ve:=bv) (l:=l515) (x:=e1018.Id) (z:=false) (r:=bv (Zle l515 e1018.Id false)) (by kernel_rfl) (by kernel_rfl) hlm1019 (by kernel_rfl) (by kernel_rfl) (fun _=>rfl)) Zb.f) (tq ?_)
    refine it h (fun hc1020 h => ?_) (fun hc1020 h => ?_)
    ·refine sq (rg Zb.f ?_)
     replace hH:HP H513 []:=HP.pick hH [] rfl
     refine tq (rt ?_)
     refine tr (br ?_)
     refine tr ?_
     obtain rfl:=Zc h
     exact ⟨_,rfl,rfl,ZC (by kernel_rfl)⟩
    refine sk (tq ?_)
    refine kq ?_
    have hlm1022:=HP.get hH 0 rfl
    obtain ⟨H1021,hH1021,hH⟩:=HP.setMp (k:=0) hH rfl (encE ke1 bv (ZiG l515 e1018.Id true))
    replace hH:HP H1021 [mpT id511 0 (encE ke1 bv (ZiG l515 e1018.Id true))]:=hH
    refine rg (Zb.o 3 (st_mapS (H:=H513) (id:=id511) (kn:=0) (ke:=ke1) (ve:=bv) (l:=l515) (x:=e1018.Id) (v:=true) (y:=bv true) (by kernel_rfl) (by kernel_rfl) hlm1022 (by kernel_rfl) (by kernel_rfl) hH1021) Zb.f) (bn ?_)
    refine tq (kq ?_)
    refine rg Zb.f ?_
    obtain rfl:=Zc h
    exact ⟨_,rfl,⟨H1021,(by show _=_;kernel_rfl),(HP.pick hH [0] rfl)⟩⟩
   refine kq ?_
   replace hH:HP H513 []:=HP.pick hH [] rfl
   refine xq (tx ?_)
   obtain rfl:=Zc h
   exact ⟨_,rfl,rfl,⟨H513,(by show _=_;kernel_rfl),(HP.pick hH [] rfl)⟩⟩
  rintro e s hq
  rcases o1023 with p1024 | p1025
  ·dsimp only at h hq
   obtain ⟨rfl,hR⟩:=hq
   obtain ⟨H1016,rfl,hH⟩:=hR
   replace hH:HP H1016 []:=hH
   refine bx (tq ?_)
   refine sq (rg Zb.f ?_)
   refine tq (rt ?_)
   obtain rfl:=Zc h
   exact ZC (by kernel_rfl)
  dsimp only at h hq
  obtain ⟨rfl,hq⟩:=hq
  refine br (tr ?_)
  obtain rfl:=Zc h
  exact hq
 dsimp only at h hq
 obtain ⟨rfl,hq⟩:=hq
 refine br (tr ?_)
 obtain rfl:=Zc h
 exact hq
theorem Zhd (N:Nat) (a0_:Zi) (a1_:ZE) (a2_:Zm) (a3_:Int) (r:Int) (h:Zdo N a0_ a1_ a2_ a3_=some r):Zal Try.prog 32 [.agg (Za a0_),.agg (Zn a1_),.agg (Ze a2_),iv a3_] (iv r):=by
 unfold Zdo at h
 have hH:HP ([]:List HO) []:=trivial
 refine ZF chk32 rfl rfl (Zv _ _ _ ?_) rfl
 refine sq (rg Zb.f ?_)
 refine tq (sq ?_)
 refine sq ?_
 obtain ⟨r1,hr1,h⟩:=bs h
 refine rg (Zb.v 1 (Zs (hc:=Zer N a0_ r1 hr1)) Zb.f) (tq ?_)
 refine sq (rg Zb.f ?_)
 refine tq (it h (fun hc2 h => ?_) (fun hc2 h => ?_))
 ·refine sq (rg Zb.f ?_)
  refine tq (rt ?_)
  refine tr ?_
  obtain rfl:=Zc h
  exact ZC (by kernel_rfl)
 refine sk (tq ?_)
 refine kq (sq ?_)
 refine sq ?_
 obtain ⟨r3,hr3,h⟩:=bs h
 refine rg (Zb.v 1 (Zs (hc:=ZgI N a1_ r3 hr3)) Zb.f) (tq ?_)
 refine sq (rg Zb.f ?_)
 refine tq (it h (fun hc4 h => ?_) (fun hc4 h => ?_))
 ·refine sq (rg Zb.f ?_)
  refine tq (rt ?_)
  refine tr ?_
  obtain rfl:=Zc h
  exact ZC (by kernel_rfl)
 refine sk (tq ?_)
 refine kq (sq ?_)
 refine sq ?_
 obtain ⟨r5,hr5,h⟩:=bs h
 refine rg (Zb.v 2 (Zs (hc:=ZeD N a0_ a2_ r5 hr5)) Zb.f) (tq ?_)
 refine it h (fun hc6 h => ?_) (fun hc6 h => ?_)
 ·refine sq (rg Zb.f ?_)
  refine tq (rt ?_)
  refine tr ?_
  obtain rfl:=Zc h
  exact ZC (by kernel_rfl)
 refine sk (tq ?_)
 refine kq (sq ?_)
 refine sq ?_
 obtain ⟨j10,hj,h⟩:=bs h
 refine rgR (fun s=>s=⟨[(36,bv j10)],[],[]⟩) ?_ ?_
 ·clear h
  rcases Zt hj with ⟨hc7,hj⟩ | ⟨hc8,hj⟩
  ·obtain rfl:=Zc hj
   exact (EP.u 2 (Zj (c:=(a2_.Class != 7)) (h:=hc7)) (EP.f (by show _=_;kernel_rfl)))
  refine (EP.u 2 (Zj (c:=(a2_.Class != 7)) (h:=hc8)) (EP.u 4 (Zo (ys:=[Zl false a2_.Routes]) (h:=ZB (eSl 1 eI64))) ?_))
  obtain ⟨r9,hr9,hj⟩:=bs hj
  obtain rfl:=Zc hj
  exact (EP.v 1 (Zs (hc:=Z9 N a3_ 0 (w64 (((List.length a2_.Routes:Nat):Int) - 1)) r9 hr9)) (EP.f (by show _=_;kernel_rfl)))
 clear hj
 rintro s hR
 obtain rfl:=hR
 refine tq (it h (fun hc11 h => ?_) (fun hc11 h => ?_))
 ·refine sq (rg Zb.f ?_)
  refine tq (rt ?_)
  refine tr ?_
  obtain rfl:=Zc h
  exact ZC (by kernel_rfl)
 refine sk (tq ?_)
 refine kq (sq ?_)
 refine rg Zb.f (tq ?_)
 refine rt ?_
 obtain rfl:=Zc h
 exact ZC (by kernel_rfl)
theorem Zap (N:Nat) (a0_:Zi) (a1_:ZE) (a2_:Zm) (a3_:Int) (r:(List ZJ) × Int) (h:Zaa N a0_ a1_ a2_ a3_=some r):Zal Try.prog 11 [.agg (Za a0_),.agg (Zn a1_),.agg (Ze a2_),iv a3_] (.tup [Z1 false r.1,iv r.2]):=by
 unfold Zaa at h
 have hH:HP ([]:List HO) []:=trivial
 refine ZF chk11 rfl rfl (Zv _ _ _ ?_) rfl
 refine sq (rgS ⟨[(3,iv a3_),(4,.loc 4 0),(5,.loc 5 0),(6,.loc 6 0)],[(4,(Za a0_)),(5,(Zn a1_)),(6,(Ze a2_))],[]⟩ Zb.f (by kernel_rfl) ?_)
 refine tq (sq ?_)
 refine sq ?_
 obtain ⟨r1,hr1,h⟩:=bs h
 refine rgS ⟨[(3,iv a3_),(4,.loc 4 0),(5,.loc 5 0),(6,.loc 6 0),(10,iv r1)],[(4,(Za a0_)),(5,(Zn a1_)),(6,(Ze a2_))],[]⟩ (Zb.v 4 (Zs (hc:=Zhd N a0_ a1_ a2_ a3_ r1 hr1)) Zb.f) (by kernel_rfl) ?_
 refine tq (sq ?_)
 refine rgS ⟨[(3,iv a3_),(4,.loc 4 0),(5,.loc 5 0),(6,.loc 6 0),(10,iv r1),(19,bv (r1 != 0))],[(4,(Za a0_)),(5,(Zn a1_)),(6,(Ze a2_))],[]⟩ Zb.f (by kernel_rfl) ?_
 refine tq (it h (fun hc2 h => ?_) (fun hc2 h => ?_))
 ·refine sq (rgS ⟨[(8,Z1 true []),(9,iv r1)],[],[]⟩ Zb.f (by kernel_rfl) ?_)
  refine tq (rt ?_)
  refine tr ?_
  obtain rfl:=Zc h
  exact ZC (by kernel_rfl)
 refine sk (tq ?_)
 refine kq (sq ?_)
 obtain ⟨id3,H4,hid3,hH4,hH⟩:=HP.newCell hH [Z1 true []]
 replace hH:HP H4 [.cel id3 [Z1 true []]]:=hH
 refine rgS ⟨[(3,iv a3_),(4,.loc 4 0),(5,.loc 5 0),(6,.loc 6 0),(11,.ptr id3 0)],[(4,(Za a0_)),(5,(Zn a1_)),(6,(Ze a2_))],H4⟩ (Zb.h 0 (ZhS (H:=[]) (by kernel_rfl) hid3 hH4) Zb.f) (by kernel_rfl) ?_
 refine tq (sq ?_)
 refine sq ?_
 obtain ⟨r5,hr5,h⟩:=bs h
 obtain ⟨id7,id8,id9,id10,H6,hvr5,hpr5⟩:=ZgL N a0_ a1_ a2_ a3_ H4 r5 hr5
 replace hH:HP H6 [.cel id7 (Ze r5.1),.cel id8 [iv r5.2.1],.cel id9 (Za r5.2.2.1),.cel id10 (Zn r5.2.2.2),.cel id3 [Z1 true []]]:=HP.callee (fp:=[]) (rest:=[.cel id3 [Z1 true []]]) hH hpr5
 refine rgS ⟨[(11,.ptr id3 0),(25,.fn 46 [] [.ptr id7 0,.ptr id8 0,.ptr id9 0,.ptr id10 0])],[],H6⟩ (Zb.v 4 (Zgu (H:=H4) (ys:=[.agg (Za a0_),.agg (Zn a1_),.agg (Ze a2_),iv a3_]) (by kernel_rfl) (by kernel_rfl) (by kernel_rfl) hvr5) Zb.f) (by kernel_rfl) ?_
 refine tq (bk ?_)
 obtain ⟨o520,ho520,h⟩:=bs h
 have hyo520:∀ (x12:ZJ) (s:(List ZJ)) (r:((List ZJ)) × Bool) (H:List HO) (its:List Zan),(fun (s:(List ZJ)) (its:List Zan)=>∃ (a13:AV),its=[.arr a13 5 false (List.map ZK s),.cel id3 [a13]]++[.lp (List.length H6) (lcOf Try.prog i11.nt [26] ZdK ZdJ) [(11,.ptr id3 0)] .ready]) s its→HP H its→(fun (s:(List ZJ)) (x12:ZJ)=>Zds (fun v:(List ZJ)=>ZbI N v x12) s) s x12=some r→∃ H' its',ZhB Try.prog (List.length H6) [.agg (Za7 x12)] H r.2 H'∧(fun (s:(List ZJ)) (its:List Zan)=>∃ (a13:AV),its=[.arr a13 5 false (List.map ZK s),.cel id3 [a13]]++[.lp (List.length H6) (lcOf Try.prog i11.nt [26] ZdK ZdJ) [(11,.ptr id3 0)] .ready]) r.1 its'∧Fp H H' its its':=by
  clear h
  intro x12 s r H11 its hT hH h
  obtain ⟨q,hb,rfl⟩:=Zg0 h
  clear h
  obtain ⟨vs,rfl⟩:∃ v,v=s:=⟨s,rfl⟩
  obtain ⟨l14,rfl⟩:∃ v,v=vs:=⟨vs,rfl⟩
  obtain ⟨a13,rfl⟩:=hT
  replace h:ZbI N l14 x12=some q:=hb
  clear hb
  unfold ZbI at h
  replace hH:Fp H11 H11 [.arr a13 5 false (List.map ZK l14),.cel id3 [a13],.lp (List.length H6) (lcOf Try.prog i11.nt [26] ZdK ZdJ) [(11,.ptr id3 0)] .ready] [.arr a13 5 false (List.map ZK l14),.cel id3 [a13],.lp (List.length H6) (lcOf Try.prog i11.nt [26] ZdK ZdJ) [(11,.ptr id3 0)] .ready]:=Fp.refl hH
  have hfa13:=Zu (Fp.get hH 0 rfl)
  suffices hs:∃ H',ZhB Try.prog (List.length H6) [.agg (Za7 x12)] H11 true H'∧∃ its',(fun (s:(List ZJ)) (its:List Zan)=>∃ (a13:AV),its=[.arr a13 5 false (List.map ZK s),.cel id3 [a13]]++[.lp (List.length H6) (lcOf Try.prog i11.nt [26] ZdK ZdJ) [(11,.ptr id3 0)] .ready]) q its'∧Fp H11 H' [.arr a13 5 false (List.map ZK l14),.cel id3 [a13],.lp (List.length H6) (lcOf Try.prog i11.nt [26] ZdK ZdJ) [(11,.ptr id3 0)] .ready] its' by
   obtain ⟨H',h1,its',h2,h3⟩:=hs
   exact ⟨H',its',h1,h2,h3⟩
  refine Zha (id:=(List.length H6)) (args:=[.agg (Za7 x12)]) (H:=H11) (n:=i11.nt) (ps:=[26]) (fr0:=[(11,.ptr id3 0)]) (ia:=ZdK) (ib:=ZdJ) true (fun H'=>∃ its',(fun (s:(List ZJ)) (its:List Zan)=>∃ (a13:AV),its=[.arr a13 5 false (List.map ZK s),.cel id3 [a13]]++[.lp (List.length H6) (lcOf Try.prog i11.nt [26] ZdK ZdJ) [(11,.ptr id3 0)] .ready]) q its'∧Fp H11 H' [.arr a13 5 false (List.map ZK l14),.cel id3 [a13],.lp (List.length H6) (lcOf Try.prog i11.nt [26] ZdK ZdJ) [(11,.ptr id3 0)] .ready] its') (Fp.get hH 2 rfl) rfl (by decide +kernel) rfl ?_
  show vc _ _ _ _ ⟨[(11,.ptr id3 0),(26,.agg (Za7 x12))],[],H11⟩
  refine rgS ⟨[(11,.ptr id3 0),(12,.loc 12 0)],[(12,(Za7 x12))],H11⟩ Zb.f (by kernel_rfl) ?_
  refine Zlh (k:=2) hH rfl ?_
  intro H514 hH
  replace hH:Fp H11 H514 [.arr a13 5 false (List.map ZK l14),.cel id3 [a13],.lp (List.length H6) (lcOf Try.prog i11.nt [26] ZdK ZdJ) [(11,.ptr id3 0)] .ready] [.arr a13 5 false (List.map ZK l14),.cel id3 [a13],.lp (List.length H6) (lcOf Try.prog i11.nt [26] ZdK ZdJ) [(11,.ptr id3 0)] .busy]:=hH
  show vc _ _ _ _ ⟨[(11,.ptr id3 0),(12,.loc 12 0)],[(12,(Za7 x12))],H514⟩
  refine bk ?_
  have hlc515:=Fp.get hH 1 rfl
  obtain ⟨l518,hl518,h⟩:=bs h
  obtain ⟨a516,H517,ha516,hH⟩:=Fp.app (k:=0) (a:=a13) (sz:=5) (frz:=false) ZK hH rfl hl518
  replace hH:Fp H11 H517 [.arr a13 5 false (List.map ZK l14),.cel id3 [a13],.lp (List.length H6) (lcOf Try.prog i11.nt [26] ZdK ZdJ) [(11,.ptr id3 0)] .ready] [.arr a516 5 false (List.map ZK l518),.cel id3 [a13],.lp (List.length H6) (lcOf Try.prog i11.nt [26] ZdK ZdJ) [(11,.ptr id3 0)] .busy]:=hH
  have hfa516:=Zu (Fp.get hH 0 rfl)
  obtain ⟨H519,hH519,hH⟩:=Fp.setCell (k:=1) (off:=0) (cs:=[a13]) (vs:=[a516]) (cs':=[a516]) hH rfl (by kernel_rfl)
  replace hH:Fp H11 H519 [.arr a13 5 false (List.map ZK l14),.cel id3 [a13],.lp (List.length H6) (lcOf Try.prog i11.nt [26] ZdK ZdJ) [(11,.ptr id3 0)] .ready] [.arr a516 5 false (List.map ZK l518),.cel id3 [a516],.lp (List.length H6) (lcOf Try.prog i11.nt [26] ZdK ZdJ) [(11,.ptr id3 0)] .busy]:=hH
  refine rgS ⟨[],[],H519⟩ (Zb.u 0 (ZA (H:=H514) (id:=id3) (off:=0) (cs:=[a13]) (c:=[a13]) (r:=a13) (by rcases hfa13 with ha13e | ⟨_,_,ha13e⟩<;>subst ha13e<;>kernel_rfl) (by rcases hfa13 with ha13e | ⟨_,_,ha13e⟩<;>subst ha13e<;>kernel_rfl) hlc515 (by rcases hfa13 with ha13e | ⟨_,_,ha13e⟩<;>subst ha13e<;>kernel_rfl) (by rcases hfa13 with ha13e | ⟨_,_,ha13e⟩<;>subst ha13e<;>kernel_rfl) (by rcases hfa13 with ha13e | ⟨_,_,ha13e⟩<;>subst ha13e<;>kernel_rfl)) (Zb.h 2 (ZdH (H:=H514) (a:=a13) (b:=Z1 true [x12]) (by rcases hfa13 with ha13e | ⟨_,_,ha13e⟩<;>subst ha13e<;>kernel_rfl) (by rcases hfa13 with ha13e | ⟨_,_,ha13e⟩<;>subst ha13e<;>kernel_rfl) (by rcases hfa13 with ha13e | ⟨_,_,ha13e⟩<;>subst ha13e<;>kernel_rfl) (by rcases hfa13 with ha13e | ⟨_,_,ha13e⟩<;>subst ha13e<;>kernel_rfl) ha516) (Zb.o 0 (Zhg (H:=H517) (v:=a516) (cs:=[a516]) (by rcases hfa516 with ha516e | ⟨_,_,ha516e⟩<;>subst ha516e<;>kernel_rfl) (by rcases hfa516 with ha516e | ⟨_,_,ha516e⟩<;>subst ha516e<;>kernel_rfl) (by rcases hfa516 with ha516e | ⟨_,_,ha516e⟩<;>subst ha516e<;>kernel_rfl) (by rcases hfa516 with ha516e | ⟨_,_,ha516e⟩<;>subst ha516e<;>kernel_rfl) (by rcases hfa516 with ha516e | ⟨_,_,ha516e⟩<;>subst ha516e<;>kernel_rfl) hH519) Zb.f))) (by kernel_rfl) ?_
  refine bn ?_
  obtain rfl:=Zc h
  exact rbd (k:=2) (.ready) hH rfl rfl (fun H6 hH=>⟨_,⟨a516,Eq.refl _⟩,(Fp.pick hH [0,1,2] rfl)⟩)
 refine ZiH (s:=⟨[(11,.ptr id3 0),(25,.fn 46 [] [.ptr id7 0,.ptr id8 0,.ptr id9 0,.ptr id10 0])],[],H6⟩) [(11,.ptr id3 0)] (FrOK.cons (by kernel_rfl) (by kernel_rfl) FrOK.nil) (by kernel_rfl) (fun H=>rfl) (capT:=[.cel id7 (Ze r5.1),.cel id8 [iv r5.2.1],.cel id9 (Za r5.2.2.1),.cel id10 (Zn r5.2.2.2)]) (cells0:=[.arr (.p (.sl 5 true [])) 5 false (List.map ZK []),.cel id3 [Z1 true []]]) (rest:=[]) (HP.now (HP.pick (HP.nilArr hH 5 false) [1,2,3,4,0,5] rfl)) (fun (s:(List ZJ)) (its:List Zan)=>∃ (a13:AV),its=[.arr a13 5 false (List.map ZK s),.cel id3 [a13]]++[.lp (List.length H6) (lcOf Try.prog i11.nt [26] ZdK ZdJ) [(11,.ptr id3 0)] .ready]) [] o520 (by exact ⟨(.p (.sl 5 true [])),Eq.refl _⟩) (fun H its hT hH=>ZfP N (fun (s:(List ZJ)) (x12:ZJ)=>Zds (fun v:(List ZJ)=>ZbI N v x12) s) r5.1 r5.2.1 r5.2.2.1 r5.2.2.2 [] id7 id8 id9 id10 (List.length H6) (fun (s:(List ZJ)) (its:List Zan)=>∃ (a13:AV),its=[.arr a13 5 false (List.map ZK s),.cel id3 [a13]]++[.lp (List.length H6) (lcOf Try.prog i11.nt [26] ZdK ZdJ) [(11,.ptr id3 0)] .ready]) hyo520 H its hT hH o520 ho520) ?_
 rintro its hT
 obtain ⟨a13,rfl⟩:=hT
 refine ⟨_,_,rfl,?_⟩
 intro H521 hF
 replace hH:HP H521 [.cel id7 (Ze r5.1),.cel id8 [iv r5.2.1],.cel id9 (Za r5.2.2.1),.cel id10 (Zn r5.2.2.2),.arr a13 5 false (List.map ZK o520),.cel id3 [a13]]:=HP.after (HP.pick (HP.nilArr hH 5 false) [1,2,3,4,0,5] rfl) hF
 have hfa13:=Zu (HP.get hH 4 rfl)
 refine ZhZ (S:=⟨[(11,.ptr id3 0),(25,.fn 46 [] [.ptr id7 0,.ptr id8 0,.ptr id9 0,.ptr id10 0])],[],H521⟩) ?_
 refine bn (tq ?_)
 refine kq ?_
 replace hH:HP H521 [.arr a13 5 false (List.map ZK o520),.cel id3 [a13]]:=HP.pick hH [4,5] rfl
 refine sq ?_
 have hlc522:=HP.get hH 1 rfl
 refine rgS ⟨[(8,a13),(9,iv 0)],[],H521⟩ (Zb.u 0 (ZA (H:=H521) (id:=id3) (off:=0) (cs:=[a13]) (c:=[a13]) (r:=a13) (by rcases hfa13 with ha13e | ⟨_,_,ha13e⟩<;>subst ha13e<;>kernel_rfl) (by rcases hfa13 with ha13e | ⟨_,_,ha13e⟩<;>subst ha13e<;>kernel_rfl) hlc522 (by rcases hfa13 with ha13e | ⟨_,_,ha13e⟩<;>subst ha13e<;>kernel_rfl) (by rcases hfa13 with ha13e | ⟨_,_,ha13e⟩<;>subst ha13e<;>kernel_rfl) (by rcases hfa13 with ha13e | ⟨_,_,ha13e⟩<;>subst ha13e<;>kernel_rfl)) Zb.f) (by rcases hfa13 with ha13e | ⟨_,_,ha13e⟩<;>subst ha13e<;>kernel_rfl) ?_
 replace hH:HP H521 [.arr a13 5 false (List.map ZK o520)]:=HP.pick hH [0] rfl
 refine tq (rt ?_)
 obtain rfl:=Zc h
 exact ZdO (H:=H521) (ys:=[a13,iv 0]) (xs:=[.p (.sl 5 false (List.map ZK o520)),iv 0]) (by rcases hfa13 with ha13e | ⟨_,_,ha13e⟩<;>subst ha13e<;>kernel_rfl) (by rcases hfa13 with ha13e | ⟨_,_,ha13e⟩<;>subst ha13e<;>kernel_rfl) (ZaU (HP.pure (k:=0) (frz:=false) ZK hH rfl).2 (ZaU rfl ZbM)) (by kernel_rfl)
theorem Zax (N:Nat) (a0_:Zi) (a1_:ZE) (a2_:Zm) (a3_:Int) (r:Int × Int) (h:Zah N a0_ a1_ a2_ a3_=some r):Zal Try.prog 13 [.agg (Za a0_),.agg (Zn a1_),.agg (Ze a2_),iv a3_] (.tup [iv r.1,iv r.2]):=by
 unfold Zah at h
 have hH:HP ([]:List HO) []:=trivial
 refine ZF chk13 rfl rfl (Zv _ _ _ ?_) rfl
 refine sq ?_
 obtain ⟨id1,H2,hid1,hH2,hH⟩:=HP.newCell hH (Za a0_)
 replace hH:HP H2 [.cel id1 (Za a0_)]:=hH
 obtain ⟨id3,H4,hid3,hH4,hH⟩:=HP.newCell hH (Zn a1_)
 replace hH:HP H4 [.cel id3 (Zn a1_),.cel id1 (Za a0_)]:=hH
 refine rgS ⟨[(3,iv a3_),(4,.ptr id1 0),(5,.ptr id3 0),(6,.loc 6 0)],[(6,(Ze a2_))],H4⟩ (Zb.h 0 (Zdi (H:=[]) (v:=.agg (Za a0_)) (hid:=hid1) (hH:=hH2)) (Zb.h 0 (Zdi (H:=H2) (v:=.agg (Zn a1_)) (hid:=hid3) (hH:=hH4)) Zb.f)) (by kernel_rfl) ?_
 refine tq (sq ?_)
 refine sq ?_
 have hlc5:=HP.get hH 1 rfl
 have hlc6:=HP.get hH 0 rfl
 obtain ⟨r7,hr7,h⟩:=bs h
 refine rgS ⟨[(3,iv a3_),(4,.ptr id1 0),(5,.ptr id3 0),(6,.loc 6 0),(10,iv r7)],[(6,(Ze a2_))],H4⟩ (Zb.u 0 (ZA (H:=H4) (id:=id1) (off:=0) (cs:=(Za a0_)) (c:=(Za a0_)) (r:=.agg (Za a0_)) (hl:=hlc5)) (Zb.u 0 (ZA (H:=H4) (id:=id3) (off:=0) (cs:=(Zn a1_)) (c:=(Zn a1_)) (r:=.agg (Zn a1_)) (hl:=hlc6)) (Zb.v 2 (Zs (hc:=Zhd N a0_ a1_ a2_ a3_ r7 hr7)) Zb.f))) (by kernel_rfl) ?_
 refine tq (sq ?_)
 refine rgS ⟨[(3,iv a3_),(4,.ptr id1 0),(5,.ptr id3 0),(6,.loc 6 0),(10,iv r7),(19,bv (r7 != 0))],[(6,(Ze a2_))],H4⟩ Zb.f (by kernel_rfl) ?_
 refine tq (it h (fun hc8 h => ?_) (fun hc8 h => ?_))
 ·refine sq (rgS ⟨[(8,iv 0),(9,iv r7)],[],H4⟩ Zb.f (by kernel_rfl) ?_)
  replace hH:HP H4 []:=HP.pick hH [] rfl
  refine tq (rt ?_)
  refine tr ?_
  obtain rfl:=Zc h
  exact ZC (by kernel_rfl)
 refine sk (tq ?_)
 refine kq (sq ?_)
 obtain ⟨id9,H10,hid9,hH10,hH⟩:=HP.newCell hH [iv 0]
 replace hH:HP H10 [.cel id9 [iv 0],.cel id3 (Zn a1_),.cel id1 (Za a0_)]:=hH
 obtain ⟨H11,hH11,hH⟩:=HP.setCell (k:=0) (off:=0) (cs:=[iv 0]) (vs:=[iv 0]) (cs':=[iv 0]) hH rfl (by kernel_rfl)
 replace hH:HP H11 [.cel id9 [iv 0],.cel id3 (Zn a1_),.cel id1 (Za a0_)]:=hH
 refine rgS ⟨[(3,iv a3_),(4,.ptr id1 0),(5,.ptr id3 0),(6,.loc 6 0),(11,.ptr id9 0)],[(6,(Ze a2_))],H11⟩ (Zb.h 0 (ZhS (H:=H4) (by kernel_rfl) hid9 hH10) (Zb.o 0 (ZaD (H:=H10) (v:=iv 0) (hw:=hH11)) Zb.f)) (by kernel_rfl) ?_
 refine tq (sq ?_)
 refine sq ?_
 have hlc12:=HP.get hH 2 rfl
 have hlc13:=HP.get hH 1 rfl
 obtain ⟨r14,hr14,h⟩:=bs h
 obtain ⟨id16,id17,id18,id19,H15,hvr14,hpr14⟩:=ZgL N a0_ a1_ a2_ a3_ H11 r14 hr14
 replace hH:HP H15 [.cel id16 (Ze r14.1),.cel id17 [iv r14.2.1],.cel id18 (Za r14.2.2.1),.cel id19 (Zn r14.2.2.2),.cel id9 [iv 0],.cel id3 (Zn a1_),.cel id1 (Za a0_)]:=HP.callee (fp:=[]) (rest:=[.cel id9 [iv 0],.cel id3 (Zn a1_),.cel id1 (Za a0_)]) hH hpr14
 refine rgS ⟨[(4,.ptr id1 0),(5,.ptr id3 0),(11,.ptr id9 0),(25,.fn 46 [] [.ptr id16 0,.ptr id17 0,.ptr id18 0,.ptr id19 0])],[],H15⟩ (Zb.u 0 (ZA (H:=H11) (id:=id1) (off:=0) (cs:=(Za a0_)) (c:=(Za a0_)) (r:=.agg (Za a0_)) (hl:=hlc12)) (Zb.u 0 (ZA (H:=H11) (id:=id3) (off:=0) (cs:=(Zn a1_)) (c:=(Zn a1_)) (r:=.agg (Zn a1_)) (hl:=hlc13)) (Zb.v 2 (Zgu (H:=H11) (ys:=[.agg (Za a0_),.agg (Zn a1_),.agg (Ze a2_),iv a3_]) (by kernel_rfl) (by kernel_rfl) (by kernel_rfl) hvr14) Zb.f))) (by kernel_rfl) ?_
 refine tq (bk ?_)
 obtain ⟨o527,ho527,h⟩:=bs h
 have hyo527:∀ (x21:ZJ) (s:Int) (r:(Int) × Bool) (H:List HO) (its:List Zan),(fun (s:Int) (its:List Zan)=>its=[.cel id9 [iv s],.cel id3 (Zn a1_),.cel id1 (Za a0_)]++[.lp (List.length H15) (lcOf Try.prog i13.nt [26] Zep Zeo) [(4,.ptr id1 0),(5,.ptr id3 0),(11,.ptr id9 0)] .ready]) s its→HP H its→(fun (s:Int) (x21:ZJ)=>Zds (fun v:Int=>ZbH N a0_ a1_ v x21) s) s x21=some r→∃ H' its',ZhB Try.prog (List.length H15) [.agg (Za7 x21)] H r.2 H'∧(fun (s:Int) (its:List Zan)=>its=[.cel id9 [iv s],.cel id3 (Zn a1_),.cel id1 (Za a0_)]++[.lp (List.length H15) (lcOf Try.prog i13.nt [26] Zep Zeo) [(4,.ptr id1 0),(5,.ptr id3 0),(11,.ptr id9 0)] .ready]) r.1 its'∧Fp H H' its its':=by
  clear h
  intro x21 s r H20 its hT hH h
  obtain ⟨q,hb,rfl⟩:=Zg0 h
  clear h
  obtain ⟨vs,rfl⟩:∃ v,v=s:=⟨s,rfl⟩
  obtain ⟨i22,rfl⟩:∃ v,v=vs:=⟨vs,rfl⟩
  obtain rfl:=hT
  replace h:ZbH N a0_ a1_ i22 x21=some q:=hb
  clear hb
  unfold ZbH at h
  replace hH:Fp H20 H20 [.cel id9 [iv i22],.cel id3 (Zn a1_),.cel id1 (Za a0_),.lp (List.length H15) (lcOf Try.prog i13.nt [26] Zep Zeo) [(4,.ptr id1 0),(5,.ptr id3 0),(11,.ptr id9 0)] .ready] [.cel id9 [iv i22],.cel id3 (Zn a1_),.cel id1 (Za a0_),.lp (List.length H15) (lcOf Try.prog i13.nt [26] Zep Zeo) [(4,.ptr id1 0),(5,.ptr id3 0),(11,.ptr id9 0)] .ready]:=Fp.refl hH
  suffices hs:∃ H',ZhB Try.prog (List.length H15) [.agg (Za7 x21)] H20 true H'∧∃ its',(fun (s:Int) (its:List Zan)=>its=[.cel id9 [iv s],.cel id3 (Zn a1_),.cel id1 (Za a0_)]++[.lp (List.length H15) (lcOf Try.prog i13.nt [26] Zep Zeo) [(4,.ptr id1 0),(5,.ptr id3 0),(11,.ptr id9 0)] .ready]) q its'∧Fp H20 H' [.cel id9 [iv i22],.cel id3 (Zn a1_),.cel id1 (Za a0_),.lp (List.length H15) (lcOf Try.prog i13.nt [26] Zep Zeo) [(4,.ptr id1 0),(5,.ptr id3 0),(11,.ptr id9 0)] .ready] its' by
   obtain ⟨H',h1,its',h2,h3⟩:=hs
   exact ⟨H',its',h1,h2,h3⟩
  refine Zha (id:=(List.length H15)) (args:=[.agg (Za7 x21)]) (H:=H20) (n:=i13.nt) (ps:=[26]) (fr0:=[(4,.ptr id1 0),(5,.ptr id3 0),(11,.ptr id9 0)]) (ia:=Zep) (ib:=Zeo) true (fun H'=>∃ its',(fun (s:Int) (its:List Zan)=>its=[.cel id9 [iv s],.cel id3 (Zn a1_),.cel id1 (Za a0_)]++[.lp (List.length H15) (lcOf Try.prog i13.nt [26] Zep Zeo) [(4,.ptr id1 0),(5,.ptr id3 0),(11,.ptr id9 0)] .ready]) q its'∧Fp H20 H' [.cel id9 [iv i22],.cel id3 (Zn a1_),.cel id1 (Za a0_),.lp (List.length H15) (lcOf Try.prog i13.nt [26] Zep Zeo) [(4,.ptr id1 0),(5,.ptr id3 0),(11,.ptr id9 0)] .ready] its') (Fp.get hH 3 rfl) rfl (by decide +kernel) rfl ?_
  show vc _ _ _ _ ⟨[(4,.ptr id1 0),(5,.ptr id3 0),(11,.ptr id9 0),(26,.agg (Za7 x21))],[],H20⟩
  refine rgS ⟨[(4,.ptr id1 0),(5,.ptr id3 0),(11,.ptr id9 0),(12,.loc 12 0)],[(12,(Za7 x21))],H20⟩ Zb.f (by kernel_rfl) ?_
  refine Zlh (k:=3) hH rfl ?_
  intro H522 hH
  replace hH:Fp H20 H522 [.cel id9 [iv i22],.cel id3 (Zn a1_),.cel id1 (Za a0_),.lp (List.length H15) (lcOf Try.prog i13.nt [26] Zep Zeo) [(4,.ptr id1 0),(5,.ptr id3 0),(11,.ptr id9 0)] .ready] [.cel id9 [iv i22],.cel id3 (Zn a1_),.cel id1 (Za a0_),.lp (List.length H15) (lcOf Try.prog i13.nt [26] Zep Zeo) [(4,.ptr id1 0),(5,.ptr id3 0),(11,.ptr id9 0)] .busy]:=hH
  show vc _ _ _ _ ⟨[(4,.ptr id1 0),(5,.ptr id3 0),(11,.ptr id9 0),(12,.loc 12 0)],[(12,(Za7 x21))],H522⟩
  refine bk ?_
  have hlc523:=Fp.get hH 2 rfl
  obtain ⟨e524,he524,h⟩:=bs h
  have hlc525:=Fp.get hH 1 rfl
  obtain ⟨H526,hH526,hH⟩:=Fp.setCell (k:=0) (off:=0) (cs:=[iv i22]) (vs:=[iv (w64 ((w64 ((w64 (x21.Open+x21.Long))+e524.Delay))+a1_.Proc))]) (cs':=[iv (w64 ((w64 ((w64 (x21.Open+x21.Long))+e524.Delay))+a1_.Proc))]) hH rfl (by kernel_rfl)
  replace hH:Fp H20 H526 [.cel id9 [iv i22],.cel id3 (Zn a1_),.cel id1 (Za a0_),.lp (List.length H15) (lcOf Try.prog i13.nt [26] Zep Zeo) [(4,.ptr id1 0),(5,.ptr id3 0),(11,.ptr id9 0)] .ready] [.cel id9 [iv (w64 ((w64 ((w64 (x21.Open+x21.Long))+e524.Delay))+a1_.Proc))],.cel id3 (Zn a1_),.cel id1 (Za a0_),.lp (List.length H15) (lcOf Try.prog i13.nt [26] Zep Zeo) [(4,.ptr id1 0),(5,.ptr id3 0),(11,.ptr id9 0)] .busy]:=hH
  refine rqS ⟨[],[],H526⟩ (Zb.u 6 (Zw (ZA (H:=H522) (id:=id1) (off:=2) (cs:=(Za a0_)) (c:=[Zh false a0_.Links]) (r:=Zh false a0_.Links) (hl:=hlc523))) (Zb.u 3 (Zo (ys:=[Zh false a0_.Links,iv (w64 (Int.tdiv x21.Port 2))]) (h:=Zg Zp he524)) (Zb.u 1 (Zw (Zq (sz:=4) (off:=3) (cs:=[.int .i64 e524.Delay]) (r:=iv e524.Delay) Zp he524)) (Zb.u 2 (Zw (ZA (H:=H522) (id:=id3) (off:=2) (cs:=(Zn a1_)) (c:=[iv a1_.Proc]) (r:=iv a1_.Proc) (hl:=hlc525))) (Zb.o 1 (ZlD (ZaD (H:=H522) (v:=iv (w64 ((w64 ((w64 (x21.Open+x21.Long))+e524.Delay))+a1_.Proc))) (hw:=hH526)) (by kernel_rfl)) Zb.f))))) (by kernel_rfl) ?_
  refine bn ?_
  obtain rfl:=Zc h
  exact rbd (k:=3) (.ready) hH rfl rfl (fun H6 hH=>⟨_,(Eq.refl _),(Fp.pick hH [0,1,2,3] rfl)⟩)
 refine ZiH (s:=⟨[(4,.ptr id1 0),(5,.ptr id3 0),(11,.ptr id9 0),(25,.fn 46 [] [.ptr id16 0,.ptr id17 0,.ptr id18 0,.ptr id19 0])],[],H15⟩) [(4,.ptr id1 0),(5,.ptr id3 0),(11,.ptr id9 0)] (FrOK.cons (by kernel_rfl) (by kernel_rfl) (FrOK.cons (by kernel_rfl) (by kernel_rfl) (FrOK.cons (by kernel_rfl) (by kernel_rfl) FrOK.nil))) (by kernel_rfl) (fun H=>rfl) (capT:=[.cel id16 (Ze r14.1),.cel id17 [iv r14.2.1],.cel id18 (Za r14.2.2.1),.cel id19 (Zn r14.2.2.2)]) (cells0:=[.cel id9 [iv 0],.cel id3 (Zn a1_),.cel id1 (Za a0_)]) (rest:=[]) (HP.now (HP.pick hH [0,1,2,3,4,5,6] rfl)) (fun (s:Int) (its:List Zan)=>its=[.cel id9 [iv s],.cel id3 (Zn a1_),.cel id1 (Za a0_)]++[.lp (List.length H15) (lcOf Try.prog i13.nt [26] Zep Zeo) [(4,.ptr id1 0),(5,.ptr id3 0),(11,.ptr id9 0)] .ready]) 0 o527 (by exact (Eq.refl _)) (fun H its hT hH=>ZfP N (fun (s:Int) (x21:ZJ)=>Zds (fun v:Int=>ZbH N a0_ a1_ v x21) s) r14.1 r14.2.1 r14.2.2.1 r14.2.2.2 0 id16 id17 id18 id19 (List.length H15) (fun (s:Int) (its:List Zan)=>its=[.cel id9 [iv s],.cel id3 (Zn a1_),.cel id1 (Za a0_)]++[.lp (List.length H15) (lcOf Try.prog i13.nt [26] Zep Zeo) [(4,.ptr id1 0),(5,.ptr id3 0),(11,.ptr id9 0)] .ready]) hyo527 H its hT hH o527 ho527) ?_
 rintro its hT
 obtain rfl:=hT
 refine ⟨_,_,rfl,?_⟩
 intro H528 hF
 replace hH:HP H528 [.cel id16 (Ze r14.1),.cel id17 [iv r14.2.1],.cel id18 (Za r14.2.2.1),.cel id19 (Zn r14.2.2.2),.cel id9 [iv o527],.cel id3 (Zn a1_),.cel id1 (Za a0_)]:=HP.after (HP.pick hH [0,1,2,3,4,5,6] rfl) hF
 refine ZhZ (S:=⟨[(4,.ptr id1 0),(5,.ptr id3 0),(11,.ptr id9 0),(25,.fn 46 [] [.ptr id16 0,.ptr id17 0,.ptr id18 0,.ptr id19 0])],[],H528⟩) ?_
 refine bn (tq ?_)
 refine kq ?_
 replace hH:HP H528 [.cel id9 [iv o527]]:=HP.pick hH [4] rfl
 refine sq ?_
 have hlc529:=HP.get hH 0 rfl
 refine rgS ⟨[(8,iv o527),(9,iv 0)],[],H528⟩ (Zb.u 0 (ZA (H:=H528) (id:=id9) (off:=0) (cs:=[iv o527]) (c:=[iv o527]) (r:=iv o527) (hl:=hlc529)) Zb.f) (by kernel_rfl) ?_
 replace hH:HP H528 []:=HP.pick hH [] rfl
 refine tq (rt ?_)
 obtain rfl:=Zc h
 exact ZC (by kernel_rfl)
theorem Zkj (N:Nat) (r:Bool) (h:ZeQ N=some r):Zal Try.prog 16 [] (bv r):=by
 unfold ZeQ at h
 have hH:HP ([]:List HO) []:=trivial
 refine ZF chk16 rfl rfl (Zv _ _ _ ?_) rfl
 refine sq (rg Zb.f ?_)
 refine tq (sq ?_)
 obtain ⟨r1,hr1,h⟩:=bs h
 obtain ⟨r2,hr2,h⟩:=bs h
 obtain ⟨r3,hr3,h⟩:=bs h
 refine rg (Zb.v 0 (Zs (hc:=Zlg N  r1 hr1)) (Zb.v 0 (Zs (hc:=Zkk N  r2 hr2)) (Zb.v 0 (Zs (hc:=Zhw N  r3 hr3)) Zb.f))) (tq ?_)
 refine sq ?_
 obtain ⟨r4,hr4,h⟩:=bs h
 refine rg (Zb.v 3 (Zs (hc:=Zap N r1 r2 r3 0 r4 hr4)) Zb.f) (tq ?_)
 refine sq ?_
 obtain ⟨r5,hr5,h⟩:=bs h
 refine rg (Zb.v 3 (Zs (hc:=Zax N r1 r2 r3 0 r5 hr5)) Zb.f) (tq ?_)
 refine sq ?_
 obtain ⟨r6,hr6,h⟩:=bs h
 refine rg (Zb.v 3 (Zs (hc:=Zap N r1 r2 r3 1 r6 hr6)) Zb.f) (tq ?_)
 refine sq (sq ?_)
 obtain ⟨j17,hj,h⟩:=bs h
 refine rgR (fun s=>s=⟨[(1,.loc 1 0),(3,.loc 3 0),(6,iv r5.1),(9,iv r6.2),(62,bv j17)],[(1,(Za r1)),(3,(Ze r3))],[]⟩) ?_ ?_
 ·clear h
  rcases Zt hj with ⟨hc7,hj⟩ | ⟨hc8,hj⟩
  ·obtain rfl:=Zc hj
   exact (EP.u 1 (Zj (c:=(r4.2 != 0)) (h:=hc7)) (EP.f (by show _=_;kernel_rfl)))
  refine (EP.u 1 (Zj (c:=(r4.2 != 0)) (h:=hc8)) ?_)
  rcases Zt hj with ⟨hc9,hj⟩ | ⟨hc10,hj⟩
  ·obtain rfl:=Zc hj
   exact (EP.u 2 (Zj (c:=(r5.2 != 0)) (h:=hc9)) (EP.f (by show _=_;kernel_rfl)))
  refine (EP.u 2 (Zj (c:=(r5.2 != 0)) (h:=hc10)) (EP.u 3 (Zo (ys:=[Z1 false r4.1]) (h:=ZB ZK)) ?_))
  rcases Zt hj with ⟨hc11,hj⟩ | ⟨hc12,hj⟩
  ·obtain rfl:=Zc hj
   exact (EP.u 0 (Zj (c:=(((List.length r4.1:Nat):Int) != 2)) (h:=hc11)) (EP.f (by show _=_;kernel_rfl)))
  refine (EP.u 0 (Zj (c:=(((List.length r4.1:Nat):Int) != 2)) (h:=hc12)) ?_)
  obtain ⟨e13,he13,hj⟩:=bs hj
  refine (EP.u 3 (Zo (ys:=[Z1 false r4.1,iv 0]) (h:=Zg ZK he13)) (EP.u 0 (Zq (sz:=5) (off:=0) (cs:=[.int .i64 e13.Port,.int .i64 e13.Early,.int .i64 e13.Late,.int .i64 e13.Open,.int .i64 e13.Long]) (r:=.agg (Za7 e13)) ZK he13) ?_))
  rcases Zt hj with ⟨hc14,hj⟩ | ⟨hc15,hj⟩
  ·obtain rfl:=Zc hj
   exact (EP.u 1 (Zj (c:=(!((e13.Port==0)&&((e13.Early==0)&&((e13.Late==0)&&((e13.Open==0)&&((e13.Long==800)&&true))))))) (h:=hc14)) (EP.f (by show _=_;kernel_rfl)))
  refine (EP.u 1 (Zj (c:=(!((e13.Port==0)&&((e13.Early==0)&&((e13.Late==0)&&((e13.Open==0)&&((e13.Long==800)&&true))))))) (h:=hc15)) ?_)
  obtain ⟨e16,he16,hj⟩:=bs hj
  obtain rfl:=Zc hj
  exact (EP.u 3 (Zo (ys:=[Z1 false r4.1,iv 1]) (h:=Zg ZK he16)) (EP.u 0 (Zq (sz:=5) (off:=0) (cs:=[.int .i64 e16.Port,.int .i64 e16.Early,.int .i64 e16.Late,.int .i64 e16.Open,.int .i64 e16.Long]) (r:=.agg (Za7 e16)) ZK he16) (EP.f (by show _=_;kernel_rfl))))
 clear hj
 rintro s hR
 obtain rfl:=hR
 refine tq (it h (fun hc18 h => ?_) (fun hc18 h => ?_))
 ·refine sq (rg Zb.f ?_)
  refine tq (rt ?_)
  refine tr ?_
  obtain rfl:=Zc h
  exact ZC (by kernel_rfl)
 refine sk (tq ?_)
 refine kq (sq ?_)
 refine rq Zb.f (tq ?_)
 refine sq (rg Zb.f ?_)
 refine tq (sq ?_)
 obtain ⟨j26,hj,h⟩:=bs h
 refine rgR (fun s=>s=⟨[(1,.loc 1 0),(3,.loc 3 0),(6,iv r5.1),(9,iv r6.2),(13,bv j26)],[(1,(Za r1)),(3,(Ze r3))],[]⟩) ?_ ?_
 ·clear h
  obtain ⟨r19,hr19,hj⟩:=bs hj
  refine (EP.v 2 (Zs (hc:=Zdx N r1 (Zm.mk r3.Id r3.Talker 1 r3.Class r3.Size r3.Period r3.Bucket r3.Deadline r3.Routes) r19 hr19)) ?_)
  rcases Zt hj with ⟨hc20,hj⟩ | ⟨hc25,hj⟩
  ·refine (EP.u 0 (Zj (c:=(r19==321)) (h:=hc20)) ?_)
   obtain ⟨r21,hr21,hj⟩:=bs hj
   refine (EP.v 3 (Zs (hc:=Zdx N r1 (Zm.mk r3.Id r3.Talker r3.Listener r3.Class 83 r3.Period r3.Bucket r3.Deadline r3.Routes) r21 hr21)) ?_)
   rcases Zt hj with ⟨hc22,hj⟩ | ⟨hc24,hj⟩
   ·refine (EP.u 0 (Zj (c:=(r21==321)) (h:=hc22)) ?_)
    obtain ⟨r23,hr23,hj⟩:=bs hj
    obtain rfl:=Zc hj
    exact (EP.v 4 (Zs (hc:=Zdx N r1 (Zm.mk r3.Id r3.Talker r3.Listener r3.Class r3.Size r3.Period r3.Bucket r3.Deadline ([[2,0]])) r23 hr23)) (EP.f (by show _=_;kernel_rfl)))
   obtain rfl:=Zc hj
   exact (EP.u 0 (Zj (c:=(r21==321)) (h:=hc24)) (EP.f (by show _=_;kernel_rfl)))
  obtain rfl:=Zc hj
  exact (EP.u 0 (Zj (c:=(r19==321)) (h:=hc25)) (EP.f (by show _=_;kernel_rfl)))
 clear hj
 rintro s hR
 obtain rfl:=hR
 refine tq (sq ?_)
 obtain ⟨j37,hj,h⟩:=bs h
 refine rgR (fun s=>s=⟨[(0,bv j37)],[],[]⟩) ?_ ?_
 ·clear h
  rcases Zt hj with ⟨hc27,hj⟩ | ⟨hc36,hj⟩
  ·refine (EP.u 1 (Zj (c:=(r5.1==1715)) (h:=hc27)) ?_)
   rcases Zt hj with ⟨hc28,hj⟩ | ⟨hc35,hj⟩
   ·refine (EP.u 2 (Zj (c:=(r6.2==2)) (h:=hc28)) ?_)
    rcases Zt hj with ⟨hc29,hj⟩ | ⟨hc34,hj⟩
    ·refine (EP.u 2 (Zj (c:=j26) (h:=hc29)) ?_)
     obtain ⟨r30,hr30,hj⟩:=bs hj
     refine (EP.v 6 (Zs (hc:=Zhe N r1 ([r3,r3]) r30 hr30)) ?_)
     rcases Zt hj with ⟨hc31,hj⟩ | ⟨hc33,hj⟩
     ·refine (EP.u 0 (Zj (c:=(r30==322)) (h:=hc31)) ?_)
      obtain ⟨r32,hr32,hj⟩:=bs hj
      obtain rfl:=Zc hj
      exact (EP.v 4 (Zs (hc:=Zdx N r1 r3 r32 hr32)) (EP.f (by show _=_;kernel_rfl)))
     obtain rfl:=Zc hj
     exact (EP.u 0 (Zj (c:=(r30==322)) (h:=hc33)) (EP.f (by show _=_;kernel_rfl)))
    obtain rfl:=Zc hj
    exact (EP.u 2 (Zj (c:=j26) (h:=hc34)) (EP.f (by show _=_;kernel_rfl)))
   obtain rfl:=Zc hj
   exact (EP.u 2 (Zj (c:=(r6.2==2)) (h:=hc35)) (EP.f (by show _=_;kernel_rfl)))
  obtain rfl:=Zc hj
  exact (EP.u 1 (Zj (c:=(r5.1==1715)) (h:=hc36)) (EP.f (by show _=_;kernel_rfl)))
 clear hj
 rintro s hR
 obtain rfl:=hR
 refine tq (rt ?_)
 obtain rfl:=Zc h
 exact ZC (by kernel_rfl)
end Go.Sh

