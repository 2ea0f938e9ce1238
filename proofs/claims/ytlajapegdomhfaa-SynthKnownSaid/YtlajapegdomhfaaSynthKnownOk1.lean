/- Part of the proof. -/
import Derived.Test.YtlajapegdomhfaaSynthKnownSh
import Derived.Test.YtlajapegdomhfaaSynthKnownChk
set_option linter.all false
namespace Go.Sh
open Go Go.Eng Go.Proofs
set_option maxRecDepth 100000
set_option maxHeartbeats 4000000
attribute [local irreducible] vc ev Zdq opsD opsF ZfR upd updH updO
theorem ZgV (N:Nat)(r:Z8)(h:Zf5 N=some r):PCall Try.prog 4 [] (.agg [iv r.Nodes,s_eB false r.Station,ZZ false r.Links]):=by
 unfold Zf5 at h
 have hH  := hp0
 refine Zal chk4 rfl rfl (Z5 _ _ _ ?_) rfl
 refine sq (rg ZO.f (tq (sq (rg ZO.f (tq (rt ?_))))))
 cases h
 exact Zab kr
theorem Zgp (N:Nat)(r:Zan)(h:Ze9 N=some r):PCall Try.prog 5 [] (.agg [iv r.Grid,iv r.Slack,iv r.Proc,iv r.Cap]):=by
 unfold Ze9 at h
 have hH  := hp0
 refine Zal chk5 rfl rfl (Z5 _ _ _ ?_) rfl
 refine sq (rg ZO.f (tq (sq (rg ZO.f (tq (rt ?_))))))
 cases h
 exact Zab kr
theorem Zbj (N:Nat)(a0_:(List Int))(r:Zah)(h:ZbC N a0_=some r):PCall Try.prog 7 [ZU false a0_] (.agg [Z3 false r.Entries,iv r.Cycle]):=by
 unfold ZbC at h
 have hH  := hp0
 refine Zal chk7 rfl rfl (Z5 _ _ _ ?_) rfl
 refine sq (rg ZO.f (tq (sq (rg ZO.f (tq (sq (sq (rg ZO.f (tq (bk ?_))))))))))
 obtain ⟨a3,a9,h⟩:=bs h
 refine ZaG ((Zat (λ(x:Int×Int×(List ZaS)) s=>∃ (a1:AV) (H2:List HO),s=⟨[(0,ZU false a0_),(2,.loc 2 0),(3,.loc 3 0),(4,iv x.1)],[(2,[Z3 true [],iv 0]),(3,[a1,iv x.2.1])],H2⟩/\HP H2 [.arr a1 2 false (List.map Z4 x.2.2)]) (λx:Int×Int×(List ZaS)=>ZdP N a0_ x.1 x.2.1 x.2.2) (λ(p:Int×(List ZaS)) e s=>e=.exit 0/\(∃ (a4:AV) (a6:List HO),s=⟨[(2,.loc 2 0),(3,.loc 3 0)],[(2,[Z3 true [],iv 0]),(3,[a4,iv p.1])],a6⟩/\HP a6 [.arr a4 2 false (List.map Z4 p.2)])) ?_ N _ a3 _ a9 ⟨(.p (.sl 2 true [])),[],kr,(HP.pick (HP.nilArr hH 2 false) [0] rfl)⟩).mono ?_)
 ·clear h a9
  rintro ⟨i3,i4,l5⟩ o s h hR
  obtain ⟨a1,H2,rfl,hH⟩:=hR
  replace hH:HP _ [.arr a1 2 false (List.map Z4 l5)]:=hH
  have hfa1:=Za5 (HP.get hH 0 rfl)
  replace h:ZdP N a0_ i3 i4 l5=some o:=h
  unfold ZdP at h
  refine sq (sq (rgS ⟨[(0,ZU false a0_),(2,.loc 2 0),(3,.loc 3 0),(4,iv i3),(9,bv (decide ((w64 (i3+1))<((List.length a0_:Nat):Int))))],[(2,[Z3 true [],iv 0]),(3,[a1,iv i4])],H2⟩ (ZO.u 3 (Z0 (ys:=[ZU false a0_]) (h:=Z6 eI64)) ZO.f) (by cases hfa1<;>kernel_rfl) (tq (it h (λag h=>?_) (λag h=>?_)))))
  ·refine sk (tq (kq (sq (bk (sq ?_)))))
   obtain ⟨ae,ac,h⟩:=bs h
   obtain ⟨ad,ab,h⟩:=bs h
   obtain ⟨aj,af,h⟩:=bs h
   obtain ⟨a5,a8,ai,hH⟩:=HP.app (k:=0) (a:=a1) (sz:=2) (frz:=false) Z4 hH rfl af
   replace hH:HP _ [.arr a5 2 false (List.map Z4 aj)]:=hH
   have a0:=Za5 (HP.get hH 0 rfl)
   refine rqS ⟨[(0,ZU false a0_),(2,.loc 2 0),(3,.loc 3 0),(4,iv i3)],[(2,[Z3 true [],iv 0]),(3,[a5,iv i4])],a8⟩ (ZO.u (hm:=(by cases hfa1<;>kernel_rfl)) 4 (Z0 (ys:=[ZU false a0_,iv i3]) (by cases hfa1<;>kernel_rfl) (ZY eI64 ac)) (ZO.u (hm:=(by cases hfa1<;>kernel_rfl)) 0 (Zaz (Zae (sz:=1) (off:=0) (cs:=[.int .i64 ae]) (r:=iv ae) eI64 ac (by cases hfa1<;>kernel_rfl) (by cases hfa1<;>kernel_rfl) (by cases hfa1<;>kernel_rfl)) (by cases hfa1<;>kernel_rfl)) (ZO.u (hm:=(by cases hfa1<;>kernel_rfl)) 3 (Z0 (ys:=[ZU false a0_,iv (w64 (i3+1))]) (by cases hfa1<;>kernel_rfl) (ZY eI64 ab)) (ZO.u (hm:=(by cases hfa1<;>kernel_rfl)) 0 (Zaz (Zae (sz:=1) (off:=0) (cs:=[.int .i64 ad]) (r:=iv ad) eI64 ab (by cases hfa1<;>kernel_rfl) (by cases hfa1<;>kernel_rfl) (by cases hfa1<;>kernel_rfl)) (by cases hfa1<;>kernel_rfl)) (ZO.h (hm:=(by cases hfa1<;>kernel_rfl)) 2 (ZhC (H:=H2) (a:=a1) (b:=Z3 true [(ZaS.mk ae ad)]) (by cases hfa1<;>kernel_rfl) (by cases hfa1<;>kernel_rfl) (by cases hfa1<;>kernel_rfl) (by cases hfa1<;>kernel_rfl) ai) (ZO.f (h:=(by cases hfa1<;>cases a0<;>kernel_rfl)))))))) (by cases hfa1<;>cases a0<;>kernel_rfl) (tq ?_)
   obtain ⟨a7,aa,h⟩:=bs h
   refine rqS ⟨[(0,ZU false a0_),(2,.loc 2 0),(3,.loc 3 0),(4,iv i3)],[(2,[Z3 true [],iv 0]),(3,[a5,iv (w64 (i4+a7))])],a8⟩ (ZO.u (hm:=(by cases a0<;>kernel_rfl)) 5 (Z0 (ys:=[ZU false a0_,iv (w64 (i3+1))]) (by cases a0<;>kernel_rfl) (ZY eI64 aa)) (ZO.u (hm:=(by cases a0<;>kernel_rfl)) 0 (Zaz (Zae (sz:=1) (off:=0) (cs:=[.int .i64 a7]) (r:=iv a7) eI64 aa (by cases a0<;>kernel_rfl) (by cases a0<;>kernel_rfl) (by cases a0<;>kernel_rfl)) (by cases a0<;>kernel_rfl)) (ZO.f (h:=(by cases a0<;>kernel_rfl))))) (by cases a0<;>kernel_rfl) (bn (tq (rgS ⟨[(0,ZU false a0_),(2,.loc 2 0),(3,.loc 3 0),(4,iv (w64 (i3+2)))],[(2,[Z3 true [],iv 0]),(3,[a5,iv (w64 (i4+a7))])],a8⟩ ZO.f (by cases a0<;>kernel_rfl) ?_)))
   cases h
   exact ⟨_,rfl,⟨a5,a8,(by show _=_;cases a0<;>kernel_rfl),(HP.pick hH [0] rfl)⟩⟩
  refine kq (xq (tx ?_))
  cases h
  exact ⟨_,rfl,rfl,⟨a1,H2,(by show _=_;cases hfa1<;>kernel_rfl),(HP.pick hH [0] rfl)⟩⟩
 rintro e s hq
 obtain ⟨rfl,hR⟩:=hq
 obtain ⟨a4,a6,rfl,hH⟩:=hR
 replace hH:HP _ [.arr a4 2 false (List.map Z4 a3.2)]:=hH
 have a2:=Za5 (HP.get hH 0 rfl)
 refine bx (tq (sq (rgS ⟨[(2,.loc 2 0)],[(2,[a4,iv a3.1])],a6⟩ (ZO.f (h:=(by cases a2<;>kernel_rfl))) (by cases a2<;>kernel_rfl) (tq (rt ?_)))))
 obtain rfl:=Zaa h
 exact Zb8 (H:=a6) (ys:=[.agg [a4,iv a3.1]]) (xs:=[.agg [.p (.sl 2 false (List.map Z4 a3.2)),iv a3.1]]) (by cases a2<;>kernel_rfl) (by cases a2<;>kernel_rfl) (ZaA (Zir (ZdS (HP.pure (k:=0) (frz:=false) Z4 hH rfl).1 (ZdS rfl Zit))) Za3) kr
theorem ZaF (N:Nat)(a0_:Int)(a1_:Int)(r:Z9)(h:ZaL N a0_ a1_=some r):PCall Try.prog 8 [iv a0_,iv a1_] (.agg [iv r.Id,iv r.Talker,iv r.Listener,iv r.Class,iv r.Size,iv r.Period,iv r.Bucket.Burst,iv r.Bucket.Rate,iv r.Deadline,Zar false r.Routes]):=by
 unfold ZaL at h
 have hH  := hp0
 refine Zal chk8 rfl rfl (Z5 _ _ _ ?_) rfl
 refine sq (rg ZO.f (tq (sq (rg ZO.f (tq (rt ?_))))))
 cases h
 exact Zab kr
theorem ZdH (N:Nat)(a0_:(List Zah))(a1_:(List Zah))(r:Bool)(h:ZdR N a0_ a1_=some r):PCall Try.prog 10 [ZT false a0_,ZT false a1_] (bv r):=by
 unfold ZdR at h
 have hH  := hp0
 refine Zal ZAR rfl rfl (Z5 _ _ _ ?_) rfl
 refine sq (rg ZO.f (tq (sq (sq (rg (ZO.u 1 (Z0 (ys:=[ZT false a0_]) (h:=Z6 Zad)) (ZO.u 1 (Z0 (ys:=[ZT false a1_]) (h:=Z6 Zad)) ZO.f)) (tq (it h (λhc1 h=>?_) (λhc1 h=>?_))))))))
 ·refine sq (rg ZO.f (tq (rt (tr ?_))))
  cases h
  exact Zab kr
 refine sk (tq (kq (sq (sq (rg ZO.f (tq (bk ?_)))))))
 obtain ⟨ae,a0,h⟩:=bs h
 refine ZaG ((Zat (λ(x:Int) s=>s=⟨[(0,ZT false a0_),(1,ZT false a1_),(5,iv x)],[],[]⟩) (λx:Int=>ZdJ N a0_ a1_ x) (λ(p:(Unit)⊕(Bool)) e s=>match p with|(.inl p)=>e=.exit 0/\(s=⟨[],[],[]⟩)|(.inr p)=>e=.ret/\∃ xs,resL s i10.res=some xs/\Zbd xs=bv p) ?_ N _ ae _ a0 kr).mono ?_)
 ·clear h a0
  rintro i2 o s h hR
  obtain rfl:=hR
  replace h:ZdJ N a0_ a1_ i2=some o:=h
  unfold ZdJ at h
  refine sq (sq (rg (ZO.u 2 (Z0 (ys:=[ZT false a0_]) (h:=Z6 Zad)) ZO.f) (tq (it h (λav h=>?_) (λav h=>?_)))))
  ·refine sk (tq (kq (sq (bk (sq (sq ?_))))))
   obtain ⟨aw,hj,h⟩:=bs h
   refine rqR (λs=>s=⟨[(0,ZT false a0_),(1,ZT false a1_),(5,iv i2),(43,bv aw)],[],[]⟩) ?_ ?_
   ·clear h
    obtain ⟨ad,ak,hj⟩:=bs hj
    refine (EP.u 2 (Z0 (ys:=[ZT false a0_,iv i2]) (h:=ZY Zad ak)) (EP.u 1 (Zaz (Zae (sz:=2) (off:=1) (cs:=[.int .i64 ad.Cycle]) (r:=iv ad.Cycle) Zad ak)) ?_))
    obtain ⟨ac,aj,hj⟩:=bs hj
    refine (EP.u 2 (Z0 (ys:=[ZT false a1_,iv i2]) (h:=ZY Zad aj)) (EP.u 1 (Zaz (Zae (sz:=2) (off:=1) (cs:=[.int .i64 ac.Cycle]) (r:=iv ac.Cycle) Zad aj)) ?_))
    rcases Zau hj with ⟨au,hj⟩|⟨ar,hj⟩
    ·obtain rfl:=Zaa hj
     exact (EP.u 0 (ZX (c:=(ad.Cycle != ac.Cycle)) (h:=au)) (EP.f kr))
    refine (EP.u 0 (ZX (c:=(ad.Cycle != ac.Cycle)) (h:=ar)) ?_)
    obtain ⟨ap,ai,hj⟩:=bs hj
    refine (EP.u 3 (Z0 (ys:=[ZT false a0_,iv i2]) (h:=ZY Zad ai)) (EP.u 1 (Zaz (Zae (sz:=2) (off:=0) (cs:=[.sl 2 false (List.map Z4 ap.Entries)]) (r:=Z3 false ap.Entries) Zad ai)) (EP.u 0 (Z0 (ys:=[Z3 false ap.Entries]) (h:=Z6 Z4)) ?_)))
    obtain ⟨ao,ag,hj⟩:=bs hj
    obtain rfl:=Zaa hj
    exact (EP.u 2 (Z0 (ys:=[ZT false a1_,iv i2]) (h:=ZY Zad ag)) (EP.u 1 (Zaz (Zae (sz:=2) (off:=0) (cs:=[.sl 2 false (List.map Z4 ao.Entries)]) (r:=Z3 false ao.Entries) Zad ag)) (EP.u 0 (Z0 (ys:=[Z3 false ao.Entries]) (h:=Z6 Z4)) (EP.f kr))))
   clear hj
   rintro s hR
   obtain rfl:=hR
   refine tq (it h (λaq h=>?_) (λaq h=>?_))
   ·refine sq (rg ZO.f (tq (rt (tr (br (tr ?_))))))
    cases h
    exact ⟨_,rfl,rfl,Zab kr⟩
   refine sk (tq (kq (sq (rg ZO.f (tq (bk ?_))))))
   obtain ⟨af,a1,h⟩:=bs h
   refine ZaG ((Zat (λ(x:Int) s=>s=⟨[(0,ZT false a0_),(1,ZT false a1_),(5,iv i2),(6,iv x)],[],[]⟩) (λx:Int=>ZdI N a0_ a1_ i2 x) (λ(p:(Unit)⊕(Bool)) e s=>match p with|(.inl p)=>e=.exit 2/\(s=⟨[(0,ZT false a0_),(1,ZT false a1_),(5,iv i2)],[],[]⟩)|(.inr p)=>e=.ret/\∃ xs,resL s i10.res=some xs/\Zbd xs=bv p) ?_ N _ af _ a1 kr).mono ?_)
   ·clear h a1
    rintro al o s h hR
    obtain rfl:=hR
    replace h:ZdI N a0_ a1_ i2 al=some o:=h
    unfold ZdI at h
    refine sq (sq ?_)
    obtain ⟨ab,a6,h⟩:=bs h
    refine rg (ZO.u 3 (Z0 (ys:=[ZT false a0_,iv i2]) (h:=ZY Zad a6)) (ZO.u 1 (Zae (sz:=2) (off:=0) (cs:=[.sl 2 false (List.map Z4 ab.Entries)]) (r:=Z3 false ab.Entries) Zad a6) (ZO.u 0 (Z0 (ys:=[Z3 false ab.Entries]) (h:=Z6 Z4)) ZO.f))) (tq (it h (λan h=>?_) (λan h=>?_)))
    ·refine sk (tq (kq (sq (bk (sq ?_)))))
     obtain ⟨aa,a5,h⟩:=bs h
     obtain ⟨a9,a4,h⟩:=bs h
     obtain ⟨a8,a3,h⟩:=bs h
     obtain ⟨a7,a2,h⟩:=bs h
     refine rq (ZO.u 2 (Z0 (ys:=[ZT false a0_,iv i2]) (h:=ZY Zad a5)) (ZO.u 1 (Zaz (Zae (sz:=2) (off:=0) (cs:=[.sl 2 false (List.map Z4 aa.Entries)]) (r:=Z3 false aa.Entries) Zad a5)) (ZO.u 1 (Z0 (ys:=[Z3 false aa.Entries,iv al]) (h:=ZY Z4 a4)) (ZO.u 0 (Zaz (Zae (sz:=2) (off:=0) (cs:=[.int .i64 a9.Mask,.int .i64 a9.Long]) (r:=.agg (Zff a9)) Z4 a4)) (ZO.u 2 (Z0 (ys:=[ZT false a1_,iv i2]) (h:=ZY Zad a3)) (ZO.u 1 (Zaz (Zae (sz:=2) (off:=0) (cs:=[.sl 2 false (List.map Z4 a8.Entries)]) (r:=Z3 false a8.Entries) Zad a3)) (ZO.u 1 (Z0 (ys:=[Z3 false a8.Entries,iv al]) (h:=ZY Z4 a2)) (ZO.u 0 (Zaz (Zae (sz:=2) (off:=0) (cs:=[.int .i64 a7.Mask,.int .i64 a7.Long]) (r:=.agg (Zff a7)) Z4 a2)) ZO.f)))))))) (tq (it h (λam h=>?_) (λam h=>?_)))
     ·refine sq (rg ZO.f (tq (rt (br (tr ?_)))))
      cases h
      exact ⟨_,rfl,rfl,Zab kr⟩
     refine sk (bn (tq (kq (rg ZO.f ?_))))
     cases h
     exact ⟨_,rfl,kr⟩
    refine kq (xq (tx ?_))
    cases h
    exact ⟨_,rfl,rfl,kr⟩
   rintro e s hq
   rcases af with aA|az
   ·dsimp only at h hq
    obtain ⟨rfl,hR⟩:=hq
    obtain rfl:=hR
    refine bx (bn (tq (kq (rg ZO.f ?_))))
    cases h
    exact ⟨_,rfl,kr⟩
   dsimp only at h hq
   obtain ⟨rfl,hq⟩:=hq
   refine br (br (tr ?_))
   cases h
   exact ⟨_,rfl,rfl,hq⟩
  refine kq (xq (tx ?_))
  cases h
  exact ⟨_,rfl,rfl,kr⟩
 rintro e s hq
 rcases ae with ay|ax
 ·dsimp only at h hq
  obtain ⟨rfl,hR⟩:=hq
  obtain rfl:=hR
  refine bx (tq (sq (rg ZO.f (tq (rt ?_)))))
  cases h
  exact Zab kr
 dsimp only at h hq
 obtain ⟨rfl,hq⟩:=hq
 refine br (tr ?_)
 cases h
 exact hq
theorem Zfi (N:Nat)(a0_:Z8)(a1_:Zan)(a2_:(List Z9))(a3_:(List Int))(H:List HO)(r:(List Z9)×(List Int)×Z8×Zan)(h:ZdC N a0_ a1_ a2_ a3_=some r):∃ (id0_ id1_ id2_ id3_:Nat) (H':List HO),Za4 Try.prog 16 [.agg (ZP a0_),.agg (ZQ a1_),ZR false a2_,ZU false a3_] H (.fn 28 [] [.ptr id0_ 0,.ptr id1_ 0,.ptr id2_ 0,.ptr id3_ 0]) H'/\Fp H H' [] [.cel id0_ [ZR false r.1],.cel id1_ [ZU false r.2.1],.cel id2_ [iv r.2.2.1.Nodes,s_eB false r.2.2.1.Station,ZZ false r.2.2.1.Links],.cel id3_ [iv r.2.2.2.Grid,iv r.2.2.2.Slack,iv r.2.2.2.Proc,iv r.2.2.2.Cap]]:=by
 suffices hs:∃ r' H',Za4 Try.prog 16 [.agg (ZP a0_),.agg (ZQ a1_),ZR false a2_,ZU false a3_] H r' H'/\∃ (id0_ id1_ id2_ id3_:Nat),r'=.fn 28 [] [.ptr id0_ 0,.ptr id1_ 0,.ptr id2_ 0,.ptr id3_ 0]/\Fp H H' [] [.cel id0_ [ZR false r.1],.cel id1_ [ZU false r.2.1],.cel id2_ [iv r.2.2.1.Nodes,s_eB false r.2.2.1.Station,ZZ false r.2.2.1.Links],.cel id3_ [iv r.2.2.2.Grid,iv r.2.2.2.Slack,iv r.2.2.2.Proc,iv r.2.2.2.Cap]] by
  obtain ⟨_,H',h1,id0_,id1_,id2_,id3_,rfl,h2⟩:=hs
  exact ⟨id0_,id1_,id2_,id3_,H',h1,h2⟩
 unfold ZdC at h
 have hH:Fp H H [] []:=Fp.refl trivial
 refine Zgc ZAL (λr' H'=>∃ (id0_ id1_ id2_ id3_:Nat),r'=.fn 28 [] [.ptr id0_ 0,.ptr id1_ 0,.ptr id2_ 0,.ptr id3_ 0]/\Fp H H' [] [.cel id0_ [ZR false r.1],.cel id1_ [ZU false r.2.1],.cel id2_ [iv r.2.2.1.Nodes,s_eB false r.2.2.1.Station,ZZ false r.2.2.1.Links],.cel id3_ [iv r.2.2.2.Grid,iv r.2.2.2.Slack,iv r.2.2.2.Proc,iv r.2.2.2.Cap]]) (λr' H' ⟨_,_,_,_,e,_⟩=>by rw [e];rfl) rfl rfl (sq ?_)
 obtain ⟨id1,H2,hid1,hH2,hH⟩:=Fp.newCell hH (ZP a0_)
 replace hH:Fp _ _ _ [.cel id1 (ZP a0_)]:=hH
 obtain ⟨id3,H4,hid3,hH4,hH⟩:=Fp.newCell hH (ZQ a1_)
 replace hH:Fp _ _ _ [.cel id3 (ZQ a1_),.cel id1 (ZP a0_)]:=hH
 obtain ⟨id5,H6,hid5,hH6,hH⟩:=Fp.newCell hH [ZR false a2_]
 replace hH:Fp _ _ _ [.cel id5 [ZR false a2_],.cel id3 (ZQ a1_),.cel id1 (ZP a0_)]:=hH
 obtain ⟨id7,H8,hid7,hH8,hH⟩:=Fp.newCell hH [ZU false a3_]
 replace hH:Fp _ _ _ [.cel id7 [ZU false a3_],.cel id5 [ZR false a2_],.cel id3 (ZQ a1_),.cel id1 (ZP a0_)]:=hH
 refine rg (ZO.h 0 (Zbb (H:=H) (v:=.agg (ZP a0_)) (hid:=hid1) (hH:=hH2)) (ZO.h 0 (Zbb (H:=H2) (v:=.agg (ZQ a1_)) (hid:=hid3) (hH:=hH4)) (ZO.h 0 (Zbb (H:=H4) (v:=ZR false a2_) (hid:=hid5) (hH:=hH6)) (ZO.h 0 (Zbb (H:=H6) (v:=ZU false a3_) (hid:=hid7) (hH:=hH8)) ZO.f)))) (tq (sq (rg ZO.f (tq (rt ?_)))))
 cases h
 exact ⟨[.fn 28 [] [.ptr id5 0,.ptr id7 0,.ptr id1 0,.ptr id3 0]],kr,id5,id7,id1,id3,rfl,Fp.pk hH [1,0,3,2] rfl⟩
theorem Zjs (N:Nat)(a0_:(List Bool))(a1_:Int)(r:Zah)(h:Zg5 N a0_ a1_=some r):PCall Try.prog 17 [s_eB false a0_,iv a1_] (.agg [Z3 false r.Entries,iv r.Cycle]):=by
 unfold Zg5 at h
 have hH  := hp0
 refine Zal ZAK rfl rfl (Z5 _ _ _ ?_) rfl
 refine sq (rg ZO.f (tq (sq (rg (ZO.u 1 (Z0 (ys:=[s_eB false a0_]) (h:=Z6 eB)) ZO.f) (tq (sq (rg ZO.f (tq (sq (sq (rg (ZO.u 1 (Z0 (ys:=[s_eB false a0_]) (h:=Z6 eB)) ZO.f) (tq (bk ?_)))))))))))))
 obtain ⟨a9,aa,h⟩:=bs h
 refine ZaG ((Zat (λ(x:Int×Int×Int×(List ZaS)) s=>∃ (a1:AV) (H2:List HO),s=⟨[(1,iv a1_),(4,.loc 4 0),(5,.loc 5 0),(6,.loc 6 0),(15,s_eB false a0_),(16,iv ((List.length a0_:Nat):Int)),(17,iv x.1)],[(4,[Z3 true [],iv 0]),(5,[a1,iv (w64 (((List.length a0_:Nat):Int)*a1_))]),(6,[iv x.2.1,iv x.2.2.1])],H2⟩/\HP H2 [.arr a1 2 false (List.map Z4 x.2.2.2)]) (λx:Int×Int×Int×(List ZaS)=>ZdD N a0_ a1_ x.1 x.2.1 x.2.2.1 x.2.2.2) (λ(p:(List ZaS)) e s=>e=.exit 0/\(∃ (a8:AV) (am:List HO),s=⟨[(4,.loc 4 0),(5,.loc 5 0)],[(4,[Z3 true [],iv 0]),(5,[a8,iv (w64 (((List.length a0_:Nat):Int)*a1_))])],am⟩/\HP am [.arr a8 2 false (List.map Z4 p)])) ?_ N _ a9 _ aa ⟨(.p (.sl 2 true [])),[],kr,(HP.pick (HP.nilArr hH 2 false) [0] rfl)⟩).mono ?_)
 ·clear h aa
  rintro ⟨i3,i4,i5,l6⟩ o s h hR
  obtain ⟨a1,H2,rfl,hH⟩:=hR
  replace hH:HP _ [.arr a1 2 false (List.map Z4 l6)]:=hH
  have hfa1:=Za5 (HP.get hH 0 rfl)
  replace h:ZdD N a0_ a1_ i3 i4 i5 l6=some o:=h
  unfold ZdD at h
  refine sq (rgS ⟨[(1,iv a1_),(4,.loc 4 0),(5,.loc 5 0),(6,.loc 6 0),(15,s_eB false a0_),(16,iv ((List.length a0_:Nat):Int)),(17,iv i3),(18,bv (decide (i3<((List.length a0_:Nat):Int))))],[(4,[Z3 true [],iv 0]),(5,[a1,iv (w64 (((List.length a0_:Nat):Int)*a1_))]),(6,[iv i4,iv i5])],H2⟩ ZO.f (by cases hfa1<;>kernel_rfl) (tq (sq (it h (λaG h=>?_) (λaG h=>?_)))))
  ·refine sk (tq (kq (sq (bk (sq ?_)))))
   obtain ⟨ak,ar,h⟩:=bs h
   refine rgS ⟨[(1,iv a1_),(4,.loc 4 0),(5,.loc 5 0),(6,.loc 6 0),(8,bv ak),(15,s_eB false a0_),(16,iv ((List.length a0_:Nat):Int)),(17,iv i3)],[(4,[Z3 true [],iv 0]),(5,[a1,iv (w64 (((List.length a0_:Nat):Int)*a1_))]),(6,[iv i4,iv i5])],H2⟩ (ZO.u 0 (Z0 (ys:=[s_eB false a0_,iv i3]) (h:=ZY eB ar)) (ZO.u 0 (Zae (sz:=1) (off:=0) (cs:=[.bool ak]) (r:=bv ak) eB ar) ZO.f)) (by cases hfa1<;>kernel_rfl) (tq (sq (rgS ⟨[(1,iv a1_),(4,.loc 4 0),(5,.loc 5 0),(6,.loc 6 0),(8,bv ak),(9,.loc 9 0),(15,s_eB false a0_),(16,iv ((List.length a0_:Nat):Int)),(17,iv i3)],[(4,[Z3 true [],iv 0]),(5,[a1,iv (w64 (((List.length a0_:Nat):Int)*a1_))]),(6,[iv i4,iv i5]),(9,[iv 127,iv a1_])],H2⟩ ZO.f (by cases hfa1<;>kernel_rfl) (tq ?_))))
   obtain ⟨a0,ac,h⟩:=bs h
   refine Zd6 [1,4,5,6,9,15,16,17] (λs=>s=⟨[(1,iv a1_),(4,.loc 4 0),(5,.loc 5 0),(6,.loc 6 0),(9,.loc 9 0),(15,s_eB false a0_),(16,iv ((List.length a0_:Nat):Int)),(17,iv i3)],[(4,[Z3 true [],iv 0]),(5,[a1,iv (w64 (((List.length a0_:Nat):Int)*a1_))]),(6,[iv i4,iv i5]),(9,[iv a0,iv a1_])],H2⟩) ?_ ?_
   ·clear h
    have h:=ac
    refine sq (rgS ⟨[(1,iv a1_),(4,.loc 4 0),(5,.loc 5 0),(6,.loc 6 0),(9,.loc 9 0),(15,s_eB false a0_),(16,iv ((List.length a0_:Nat):Int)),(17,iv i3),(23,bv ak)],[(4,[Z3 true [],iv 0]),(5,[a1,iv (w64 (((List.length a0_:Nat):Int)*a1_))]),(6,[iv i4,iv i5]),(9,[iv 127,iv a1_])],H2⟩ ZO.f (by cases hfa1<;>kernel_rfl) (tq (it h (λaz h=>?_) (λaz h=>?_))))
    ·refine rgS ⟨[(1,iv a1_),(4,.loc 4 0),(5,.loc 5 0),(6,.loc 6 0),(9,.loc 9 0),(15,s_eB false a0_),(16,iv ((List.length a0_:Nat):Int)),(17,iv i3)],[(4,[Z3 true [],iv 0]),(5,[a1,iv (w64 (((List.length a0_:Nat):Int)*a1_))]),(6,[iv i4,iv i5]),(9,[iv 128,iv a1_])],H2⟩ ZO.f (by cases hfa1<;>kernel_rfl) ?_
     cases h
     exact ⟨rfl,(by show _=_;cases hfa1<;>kernel_rfl)⟩
    refine sk ?_
    cases h
    exact ⟨rfl,(by show _=_;cases hfa1<;>kernel_rfl)⟩
   clear ac
   rintro s hR
   obtain rfl:=hR
   obtain ⟨aq,ab,h⟩:=bs h
   refine Zd6 [1,4,5,6,9,15,16,17] (λs=>∃ (a3:AV) (a4:List HO),s=⟨[(1,iv a1_),(4,.loc 4 0),(5,.loc 5 0),(6,.loc 6 0),(9,.loc 9 0),(15,s_eB false a0_),(16,iv ((List.length a0_:Nat):Int)),(17,iv i3)],[(4,[Z3 true [],iv 0]),(5,[a3,iv (w64 (((List.length a0_:Nat):Int)*a1_))]),(6,[iv i4,iv i5]),(9,[iv a0,iv a1_])],a4⟩/\HP a4 [.arr a3 2 false (List.map Z4 aq)]) ?_ ?_
   ·clear h
    have h:=ab
    refine sq (rgS ⟨[(1,iv a1_),(4,.loc 4 0),(5,.loc 5 0),(6,.loc 6 0),(9,.loc 9 0),(15,s_eB false a0_),(16,iv ((List.length a0_:Nat):Int)),(17,iv i3),(27,bv ((a0==i4)&&((a1_==i5)&&true)))],[(4,[Z3 true [],iv 0]),(5,[a1,iv (w64 (((List.length a0_:Nat):Int)*a1_))]),(6,[iv i4,iv i5]),(9,[iv a0,iv a1_])],H2⟩ ZO.f (by cases hfa1<;>kernel_rfl) (tq (it h (λay h=>?_) (λay h=>?_))))
    ·have an:=HP.len (k:=0) (a:=a1) (sz:=2) (frz:=false) (l:=l6) Z4 hH rfl
     obtain ⟨a2,aj,h⟩:=bs h
     obtain ⟨aL,aJ,_,aD,ap,aE,ag⟩:=HP.elem (k:=0) (a:=a1) (sz:=2) (frz:=false) Z4 hH rfl aj
     obtain ⟨au,ai,h⟩:=bs h
     obtain ⟨aK,aI,_,ae,ao,af,ad⟩:=HP.elem (k:=0) (a:=a1) (sz:=2) (frz:=false) Z4 hH rfl ai
     obtain ⟨aw,aB,hH⟩:=HP.setRow (k:=0) (off:=1) (cs:=[iv (w64 (a2.Long+a1_))]) (ps:=[.int .i64 (w64 (a2.Long+a1_))]) (e':=(ZaS.mk au.Mask (w64 (a2.Long+a1_)))) Z4 hH rfl af ao (ae rfl) ai kr kr
     replace hH:HP _ [.arr a1 2 false (List.map Z4 (List.set l6 (Int.toNat (w64 (((List.length l6:Nat):Int)-1))) (ZaS.mk au.Mask (w64 (a2.Long+a1_)))))]:=hH
     refine rgS ⟨[(1,iv a1_),(4,.loc 4 0),(5,.loc 5 0),(6,.loc 6 0),(9,.loc 9 0),(15,s_eB false a0_),(16,iv ((List.length a0_:Nat):Int)),(17,iv i3)],[(4,[Z3 true [],iv 0]),(5,[a1,iv (w64 (((List.length a0_:Nat):Int)*a1_))]),(6,[iv i4,iv i5]),(9,[iv a0,iv a1_])],aw⟩ (ZO.u (hm:=(by cases hfa1<;>kernel_rfl)) 4 (Z0 (ys:=[a1]) (by cases hfa1<;>kernel_rfl) an) (ZO.u (hm:=(by cases hfa1<;>kernel_rfl)) 1 (Z0 (ys:=[a1,iv (w64 (((List.length l6:Nat):Int)-1))]) (by cases hfa1<;>kernel_rfl) (ag .i64)) (ZO.u (hm:=(by cases hfa1<;>kernel_rfl)) 1 (Zct (H:=H2) (off:=1) (cs:=[.int .i64 a2.Long]) (r:=iv a2.Long) Z4 aj ap (by cases hfa1<;>kernel_rfl) (by cases hfa1<;>kernel_rfl) (by cases hfa1<;>kernel_rfl) (by cases hfa1<;>kernel_rfl)) (ZO.u (hm:=(by cases hfa1<;>kernel_rfl)) 2 (Z0 (ys:=[a1,iv (w64 (((List.length l6:Nat):Int)-1))]) (by cases hfa1<;>kernel_rfl) (ad .i64)) (ZO.o (hm:=(by cases hfa1<;>kernel_rfl)) 1 (Zam (H:=H2) (v:=iv (w64 (a2.Long+a1_))) (by cases hfa1<;>kernel_rfl) (by cases hfa1<;>kernel_rfl) (by cases hfa1<;>kernel_rfl) (by cases hfa1<;>kernel_rfl) aB) ZO.f))))) (by cases hfa1<;>kernel_rfl) ?_
     cases h
     exact ⟨rfl,⟨a1,aw,(by show _=_;cases hfa1<;>kernel_rfl),(HP.pick hH [0] rfl)⟩⟩
    obtain ⟨aC,ax,h⟩:=bs h
    obtain ⟨al,av,aA,hH⟩:=HP.app (k:=0) (a:=a1) (sz:=2) (frz:=false) Z4 hH rfl ax
    replace hH:HP _ [.arr al 2 false (List.map Z4 aC)]:=hH
    have a6:=Za5 (HP.get hH 0 rfl)
    refine rgS ⟨[(1,iv a1_),(4,.loc 4 0),(5,.loc 5 0),(6,.loc 6 0),(9,.loc 9 0),(15,s_eB false a0_),(16,iv ((List.length a0_:Nat):Int)),(17,iv i3)],[(4,[Z3 true [],iv 0]),(5,[al,iv (w64 (((List.length a0_:Nat):Int)*a1_))]),(6,[iv i4,iv i5]),(9,[iv a0,iv a1_])],av⟩ (ZO.h (hm:=(by cases hfa1<;>kernel_rfl)) 4 (ZhC (H:=H2) (a:=a1) (b:=Z3 true [(ZaS.mk a0 a1_)]) (by cases hfa1<;>kernel_rfl) (by cases hfa1<;>kernel_rfl) (by cases hfa1<;>kernel_rfl) (by cases hfa1<;>kernel_rfl) aA) (ZO.f (h:=(by cases hfa1<;>cases a6<;>kernel_rfl)))) (by cases hfa1<;>cases a6<;>kernel_rfl) ?_
    cases h
    exact ⟨rfl,⟨al,av,(by show _=_;cases a6<;>kernel_rfl),(HP.pick hH [0] rfl)⟩⟩
   clear ab
   rintro s hR
   obtain ⟨a3,a4,rfl,hH⟩:=hR
   replace hH:HP _ [.arr a3 2 false (List.map Z4 aq)]:=hH
   have a7:=Za5 (HP.get hH 0 rfl)
   refine rgS ⟨[(1,iv a1_),(4,.loc 4 0),(5,.loc 5 0),(6,.loc 6 0),(15,s_eB false a0_),(16,iv ((List.length a0_:Nat):Int)),(17,iv i3)],[(4,[Z3 true [],iv 0]),(5,[a3,iv (w64 (((List.length a0_:Nat):Int)*a1_))]),(6,[iv a0,iv a1_])],a4⟩ ZO.f (by cases a7<;>kernel_rfl) (bn (tq (kq (rgS ⟨[(1,iv a1_),(4,.loc 4 0),(5,.loc 5 0),(6,.loc 6 0),(15,s_eB false a0_),(16,iv ((List.length a0_:Nat):Int)),(17,iv (w64 (i3+1)))],[(4,[Z3 true [],iv 0]),(5,[a3,iv (w64 (((List.length a0_:Nat):Int)*a1_))]),(6,[iv a0,iv a1_])],a4⟩ ZO.f (by cases a7<;>kernel_rfl) ?_))))
   cases h
   exact ⟨_,rfl,⟨a3,a4,(by show _=_;cases a7<;>kernel_rfl),(HP.pick hH [0] rfl)⟩⟩
  refine kq (xq (tx ?_))
  cases h
  exact ⟨_,rfl,rfl,⟨a1,H2,(by show _=_;cases hfa1<;>kernel_rfl),(HP.pick hH [0] rfl)⟩⟩
 rintro e s hq
 obtain ⟨rfl,hR⟩:=hq
 obtain ⟨a8,am,rfl,hH⟩:=hR
 replace hH:HP _ [.arr a8 2 false (List.map Z4 a9)]:=hH
 have a5:=Za5 (HP.get hH 0 rfl)
 refine bx (tq (sq (rgS ⟨[(4,.loc 4 0)],[(4,[a8,iv (w64 (((List.length a0_:Nat):Int)*a1_))])],am⟩ (ZO.f (h:=(by cases a5<;>kernel_rfl))) (by cases a5<;>kernel_rfl) (tq (rt ?_)))))
 obtain rfl:=Zaa h
 exact Zb8 (H:=am) (ys:=[.agg [a8,iv (w64 (((List.length a0_:Nat):Int)*a1_))]]) (xs:=[.agg [.p (.sl 2 false (List.map Z4 a9)),iv (w64 (((List.length a0_:Nat):Int)*a1_))]]) (by cases a5<;>kernel_rfl) (by cases a5<;>kernel_rfl) (ZaA (Zir (ZdS (HP.pure (k:=0) (frz:=false) Z4 hH rfl).1 (ZdS rfl Zit))) Za3) kr
theorem Zgr (N:Nat)(a0_:Zah)(r:Int)(h:Zfd N a0_=some r):PCall Try.prog 18 [.agg (ZaN a0_)] (iv r):=by
 unfold Zfd at h
 have hH  := hp0
 refine Zal ZAJ rfl rfl (Z5 _ _ _ ?_) rfl
 refine sq (rg ZO.f (tq (sq (sq (rgX ⟨[(1,.loc 1 0),(15,bv ((decide (((List.length a0_.Entries:Nat):Int)<1))||(decide (((List.length a0_.Entries:Nat):Int)>128))))],[(1,(ZaN a0_))],[]⟩ ?_ ?_)))))
 ·refine (EP.u 2 (Z0 (ys:=[Z3 false a0_.Entries]) (h:=Z6 Z4)) ?_)
  rcases Bool.eq_false_or_eq_true (decide (((List.length a0_.Entries:Nat):Int)<1)) with hc1|hc2
  ·exact (EP.u 0 (ZX (c:=(decide (((List.length a0_.Entries:Nat):Int)<1))) (h:=hc1)) (EP.f (by simp only [hc1];kernel_rfl)))
  exact (EP.u 0 (ZX (c:=(decide (((List.length a0_.Entries:Nat):Int)<1))) (h:=hc2)) (EP.u 3 (Z0 (ys:=[Z3 false a0_.Entries]) (h:=Z6 Z4)) (EP.f (by simp only [hc2];kernel_rfl))))
 refine tq (it h (λhc3 h=>?_) (λhc3 h=>?_))
 ·refine sq (rg ZO.f (tq (rt (tr ?_))))
  cases h
  exact Zab kr
 refine sk (tq (kq (sq (rg ZO.f (tq (sq (sq (rg (ZO.u 2 (Z0 (ys:=[Z3 false a0_.Entries]) (h:=Z6 Z4)) ZO.f) (tq (bk ?_))))))))))
 obtain ⟨ac,a4,h⟩:=bs h
 refine ZaG ((Zat (λ(x:Int×Int) s=>s=⟨[(1,.loc 1 0),(3,iv x.1),(17,Z3 false a0_.Entries),(18,iv ((List.length a0_.Entries:Nat):Int)),(19,iv x.2)],[(1,(ZaN a0_))],[]⟩) (λx:Int×Int=>Zdc N a0_ x.1 x.2) (λ(p:(Int)⊕(Int)) e s=>match p with|(.inl p)=>e=.exit 0/\(s=⟨[(1,.loc 1 0),(3,iv p)],[(1,(ZaN a0_))],[]⟩)|(.inr p)=>e=.ret/\∃ xs,resL s i18.res=some xs/\Zbd xs=iv p) ?_ N _ ac _ a4 kr).mono ?_)
 ·clear h a4
  rintro ⟨i4,i5⟩ o s h hR
  obtain rfl:=hR
  replace h:Zdc N a0_ i4 i5=some o:=h
  unfold Zdc at h
  refine sq (rg ZO.f (tq (sq (it h (λaf h=>?_) (λaf h=>?_)))))
  ·refine sk (tq (kq (sq (bk (sq ?_)))))
   obtain ⟨a0,a5,h⟩:=bs h
   refine rg (ZO.u 0 (Z0 (ys:=[Z3 false a0_.Entries,iv i5]) (h:=ZY Z4 a5)) (ZO.u 0 (Zae (sz:=2) (off:=0) (cs:=[.int .i64 a0.Mask,.int .i64 a0.Long]) (r:=.agg (Zff a0)) Z4 a5) ZO.f)) (tq (sq (sq (rgX ⟨[(1,.loc 1 0),(3,iv i4),(5,.loc 5 0),(17,Z3 false a0_.Entries),(18,iv ((List.length a0_.Entries:Nat):Int)),(19,iv i5),(40,bv ((decide (a0.Mask<0))||((decide (a0.Mask>255))||((decide (a0.Long<1))||(decide (a0.Long>9600000))))))],[(1,(ZaN a0_)),(5,(Zff a0))],[]⟩ ?_ ?_))))
   ·rcases Bool.eq_false_or_eq_true (decide (a0.Mask<0)) with ab|a1
    ·exact (EP.u 2 (ZX (c:=(decide (a0.Mask<0))) (h:=ab)) (EP.f (by simp only [ab];kernel_rfl)))
    refine (EP.u 2 (ZX (c:=(decide (a0.Mask<0))) (h:=a1)) ?_)
    rcases Bool.eq_false_or_eq_true (decide (a0.Mask>255)) with aa|a3
    ·exact (EP.u 3 (ZX (c:=(decide (a0.Mask>255))) (h:=aa)) (EP.f (by simp only [a1,aa];kernel_rfl)))
    refine (EP.u 3 (ZX (c:=(decide (a0.Mask>255))) (h:=a3)) ?_)
    rcases Bool.eq_false_or_eq_true (decide (a0.Long<1)) with a9|a8
    ·exact (EP.u 4 (ZX (c:=(decide (a0.Long<1))) (h:=a9)) (EP.f (by simp only [a1,a3,a9];kernel_rfl)))
    exact (EP.u 4 (ZX (c:=(decide (a0.Long<1))) (h:=a8)) (EP.f (by simp only [a1,a3,a8];kernel_rfl)))
   refine tq (it h (λae h=>?_) (λae h=>?_))
   ·refine sq (rg ZO.f (tq (rt (tr (br (tr ?_))))))
    cases h
    exact ⟨_,rfl,rfl,Zab kr⟩
   refine sk (tq (kq (rg ZO.f (bn (tq (kq (rg ZO.f ?_)))))))
   cases h
   exact ⟨_,rfl,kr⟩
  refine kq (xq (tx ?_))
  cases h
  exact ⟨_,rfl,rfl,kr⟩
 rintro e s hq
 rcases ac with a2|ag
 ·dsimp only at h hq
  obtain ⟨rfl,hR⟩:=hq
  obtain rfl:=hR
  refine bx (tq (sq (sq (rgX ⟨[(53,bv ((a2 != a0_.Cycle)||(decide (a2>9600000))))],[],[]⟩ ?_ ?_))))
  ·rcases Bool.eq_false_or_eq_true (a2 != a0_.Cycle) with a7|a6
   ·exact (EP.u 3 (ZX (c:=(a2 != a0_.Cycle)) (h:=a7)) (EP.f (by simp only [a7];kernel_rfl)))
   exact (EP.u 3 (ZX (c:=(a2 != a0_.Cycle)) (h:=a6)) (EP.f (by simp only [a6];kernel_rfl)))
  refine tq (it h (λad h=>?_) (λad h=>?_))
  ·refine sq (rg ZO.f (tq (rt (tr ?_))))
   cases h
   exact Zab kr
  refine sk (tq (kq (sq (rg ZO.f (tq (rt ?_))))))
  cases h
  exact Zab kr
 dsimp only at h hq
 obtain ⟨rfl,hq⟩:=hq
 refine br (tr ?_)
 cases h
 exact hq
theorem Zi1 (N:Nat)(a0_:Zaf)(a1_:Int)(a2_:Int)(r:Bool)(h:ZgC N a0_ a1_ a2_=some r):PCall Try.prog 25 [.agg (ZS a0_),iv a1_,iv a2_] (bv r):=by
 unfold ZgC at h
 have hH  := hp0
 refine Zal ZAC rfl rfl (Z5 _ _ _ ?_) rfl
 refine sq (rg ZO.f (tq (sq ?_)))
 obtain ⟨j4,hj,h⟩:=bs h
 refine rgR (λs=>s=⟨[(6,bv j4)],[],[]⟩) ?_ ?_
 ·clear h
  rcases Zau hj with ⟨hc1,hj⟩|⟨hc3,hj⟩
  ·refine (EP.u 1 (ZX (c:=(decide (a2_≥0))) (h:=hc1)) ?_)
   obtain ⟨e2,he2,hj⟩:=bs hj
   obtain rfl:=Zaa hj
   exact (EP.u 5 (Z0 (ys:=[ZU false a0_.Periods,iv a1_]) (h:=ZY eI64 he2)) (EP.u 0 (Zae (sz:=1) (off:=0) (cs:=[.int .i64 e2]) (r:=iv e2) eI64 he2) (EP.f kr)))
  obtain rfl:=Zaa hj
  exact (EP.u 1 (ZX (c:=(decide (a2_≥0))) (h:=hc3)) (EP.f kr))
 clear hj
 rintro s hR
 obtain rfl:=hR
 refine tq (rt ?_)
 cases h
 exact Zab kr
theorem ZaK (N:Nat)(a0_:Int)(a1_:Int)(a2_:Int)(r:Bool)(h:ZaU N a0_ a1_ a2_=some r):PCall Try.prog 34 [iv a0_,iv a1_,iv a2_] (bv r):=by
 unfold ZaU at h
 have hH  := hp0
 refine Zal ZAt rfl rfl (Z5 _ _ _ ?_) rfl
 refine sq (rg ZO.f (tq (sq (rgX ⟨[(6,bv ((decide (a0_≥a1_))&&(decide (a0_<=a2_))))],[],[]⟩ ?_ ?_))))
 ·rcases Bool.eq_false_or_eq_true (decide (a0_≥a1_)) with hc1|hc2
  ·exact (EP.u 2 (ZX (c:=(decide (a0_≥a1_))) (h:=hc1)) (EP.f (by simp only [hc1];kernel_rfl)))
  exact (EP.u 2 (ZX (c:=(decide (a0_≥a1_))) (h:=hc2)) (EP.f (by simp only [hc2];kernel_rfl)))
 refine tq (rt ?_)
 cases h
 exact Zab kr
theorem Ze5 (N:Nat)(a0_:Int)(a1_:Int)(r:Int)(h:ZeJ N a0_ a1_=some r):PCall Try.prog 35 [iv a0_,iv a1_] (iv r):=by
 unfold ZeJ at h
 have hH  := hp0
 refine Zal ZAs rfl rfl (Z5 _ _ _ ?_) rfl
 refine sq (rg ZO.f (tq (sq ?_)))
 obtain ⟨q1,hq1,h⟩:=bs h
 refine rg (ZO.u 2 (Z0 (ys:=[iv a0_,iv a1_]) (h:=Zez hq1)) ZO.f) (tq ?_)
 obtain ⟨a3,a0,h⟩:=bs h
 refine Zd6 [5] (λs=>s=⟨[(5,iv a3)],[],[]⟩) ?_ ?_
 ·clear h
  have h:=a0
  refine sq ?_
  obtain ⟨a4,a1,h⟩:=bs h
  refine rg (ZO.u 2 (Z0 (ys:=[iv a0_,iv a1_]) (h:=ZcE a1)) ZO.f) (tq (it h (λa2 h=>?_) (λa2 h=>?_)))
  ·refine rg ZO.f ?_
   cases h
   exact ⟨rfl,kr⟩
  refine sk ?_
  cases h
  exact ⟨rfl,kr⟩
 clear a0
 rintro s hR
 obtain rfl:=hR
 refine sq (rg ZO.f (tq (rt ?_)))
 cases h
 exact Zab kr
theorem Zjz (N:Nat)(a0_:Zaf)(a1_:Int)(a2_:Int)(H:List HO)(r:Zaf×Int×Int)(h:Zhl N a0_ a1_ a2_=some r):∃ (id0_ id1_ id2_:Nat) (H':List HO),Za4 Try.prog 37 [.agg (ZS a0_),iv a1_,iv a2_] H (.fn 62 [] [.ptr id0_ 0,.ptr id1_ 0,.ptr id2_ 0]) H'/\Fp H H' [] [.cel id0_ [ZU false r.1.Periods,Zas false r.1.Uses],.cel id1_ [iv r.2.1],.cel id2_ [iv r.2.2]]:=by
 suffices hs:∃ r' H',Za4 Try.prog 37 [.agg (ZS a0_),iv a1_,iv a2_] H r' H'/\∃ (id0_ id1_ id2_:Nat),r'=.fn 62 [] [.ptr id0_ 0,.ptr id1_ 0,.ptr id2_ 0]/\Fp H H' [] [.cel id0_ [ZU false r.1.Periods,Zas false r.1.Uses],.cel id1_ [iv r.2.1],.cel id2_ [iv r.2.2]] by
  obtain ⟨_,H',h1,id0_,id1_,id2_,rfl,h2⟩:=hs
  exact ⟨id0_,id1_,id2_,H',h1,h2⟩
 unfold Zhl at h
 have hH:Fp H H [] []:=Fp.refl trivial
 refine Zgc ZAq (λr' H'=>∃ (id0_ id1_ id2_:Nat),r'=.fn 62 [] [.ptr id0_ 0,.ptr id1_ 0,.ptr id2_ 0]/\Fp H H' [] [.cel id0_ [ZU false r.1.Periods,Zas false r.1.Uses],.cel id1_ [iv r.2.1],.cel id2_ [iv r.2.2]]) (λr' H' ⟨_,_,_,e,_⟩=>by rw [e];rfl) rfl rfl (sq ?_)
 obtain ⟨id1,H2,hid1,hH2,hH⟩:=Fp.newCell hH (ZS a0_)
 replace hH:Fp _ _ _ [.cel id1 (ZS a0_)]:=hH
 obtain ⟨id3,H4,hid3,hH4,hH⟩:=Fp.newCell hH [iv a1_]
 replace hH:Fp _ _ _ [.cel id3 [iv a1_],.cel id1 (ZS a0_)]:=hH
 obtain ⟨id5,H6,hid5,hH6,hH⟩:=Fp.newCell hH [iv a2_]
 replace hH:Fp _ _ _ [.cel id5 [iv a2_],.cel id3 [iv a1_],.cel id1 (ZS a0_)]:=hH
 refine rg (ZO.h 0 (Zbb (H:=H) (v:=.agg (ZS a0_)) (hid:=hid1) (hH:=hH2)) (ZO.h 0 (Zbb (H:=H2) (v:=iv a1_) (hid:=hid3) (hH:=hH4)) (ZO.h 0 (Zbb (H:=H4) (v:=iv a2_) (hid:=hid5) (hH:=hH6)) ZO.f))) (tq (sq (rg ZO.f (tq (rt ?_)))))
 cases h
 exact ⟨[.fn 62 [] [.ptr id1 0,.ptr id3 0,.ptr id5 0]],kr,id1,id3,id5,rfl,Fp.pk hH [2,1,0] rfl⟩
theorem Zfk (N:Nat)(a0_:Zaf)(a1_:Zax)(a2_:Int)(r:ZaM)(h:ZdK N a0_ a1_ a2_=some r):PCall Try.prog 39 [.agg (ZS a0_),.agg (ZaJ a1_),iv a2_] (.agg [iv r.Period,iv r.From,iv r.Long]):=by
 unfold ZdK at h
 have hH  := hp0
 refine Zal ZAo rfl rfl (Z5 _ _ _ ?_) rfl
 refine sq (rg ZO.f (tq (sq ?_)))
 obtain ⟨e1,he1,h⟩:=bs h
 refine rg (ZO.u 4 (Z0 (ys:=[ZU false a0_.Periods,iv a1_.Stream]) (h:=ZY eI64 he1)) (ZO.u 0 (Zae (sz:=1) (off:=0) (cs:=[.int .i64 e1]) (r:=iv e1) eI64 he1) ZO.f)) (tq (sq ?_))
 obtain ⟨m2,hm2,h⟩:=bs h
 refine rq (ZO.u 6 (Z0 (ys:=[iv (w64 (a1_.From+a2_)),iv e1]) (h:=ZcE hm2)) ZO.f) (tq (rt ?_))
 cases h
 exact Zab kr
theorem Zgh (N:Nat)(a0_:Z8)(a1_:Zan)(a2_:Z9)(a3_:Int)(H:List HO)(r:Z9×Int×Z8×Zan)(h:ZeU N a0_ a1_ a2_ a3_=some r):∃ (id0_ id1_ id2_ id3_:Nat) (H':List HO),Za4 Try.prog 42 [.agg (ZP a0_),.agg (ZQ a1_),.agg (ZV a2_),iv a3_] H (.fn 67 [] [.ptr id0_ 0,.ptr id1_ 0,.ptr id2_ 0,.ptr id3_ 0]) H'/\Fp H H' [] [.cel id0_ [iv r.1.Id,iv r.1.Talker,iv r.1.Listener,iv r.1.Class,iv r.1.Size,iv r.1.Period,iv r.1.Bucket.Burst,iv r.1.Bucket.Rate,iv r.1.Deadline,Zar false r.1.Routes],.cel id1_ [iv r.2.1],.cel id2_ [iv r.2.2.1.Nodes,s_eB false r.2.2.1.Station,ZZ false r.2.2.1.Links],.cel id3_ [iv r.2.2.2.Grid,iv r.2.2.2.Slack,iv r.2.2.2.Proc,iv r.2.2.2.Cap]]:=by
 suffices hs:∃ r' H',Za4 Try.prog 42 [.agg (ZP a0_),.agg (ZQ a1_),.agg (ZV a2_),iv a3_] H r' H'/\∃ (id0_ id1_ id2_ id3_:Nat),r'=.fn 67 [] [.ptr id0_ 0,.ptr id1_ 0,.ptr id2_ 0,.ptr id3_ 0]/\Fp H H' [] [.cel id0_ [iv r.1.Id,iv r.1.Talker,iv r.1.Listener,iv r.1.Class,iv r.1.Size,iv r.1.Period,iv r.1.Bucket.Burst,iv r.1.Bucket.Rate,iv r.1.Deadline,Zar false r.1.Routes],.cel id1_ [iv r.2.1],.cel id2_ [iv r.2.2.1.Nodes,s_eB false r.2.2.1.Station,ZZ false r.2.2.1.Links],.cel id3_ [iv r.2.2.2.Grid,iv r.2.2.2.Slack,iv r.2.2.2.Proc,iv r.2.2.2.Cap]] by
  obtain ⟨_,H',h1,id0_,id1_,id2_,id3_,rfl,h2⟩:=hs
  exact ⟨id0_,id1_,id2_,id3_,H',h1,h2⟩
 unfold ZeU at h
 have hH:Fp H H [] []:=Fp.refl trivial
 refine Zgc ZAl (λr' H'=>∃ (id0_ id1_ id2_ id3_:Nat),r'=.fn 67 [] [.ptr id0_ 0,.ptr id1_ 0,.ptr id2_ 0,.ptr id3_ 0]/\Fp H H' [] [.cel id0_ [iv r.1.Id,iv r.1.Talker,iv r.1.Listener,iv r.1.Class,iv r.1.Size,iv r.1.Period,iv r.1.Bucket.Burst,iv r.1.Bucket.Rate,iv r.1.Deadline,Zar false r.1.Routes],.cel id1_ [iv r.2.1],.cel id2_ [iv r.2.2.1.Nodes,s_eB false r.2.2.1.Station,ZZ false r.2.2.1.Links],.cel id3_ [iv r.2.2.2.Grid,iv r.2.2.2.Slack,iv r.2.2.2.Proc,iv r.2.2.2.Cap]]) (λr' H' ⟨_,_,_,_,e,_⟩=>by rw [e];rfl) rfl rfl (sq ?_)
 obtain ⟨id1,H2,hid1,hH2,hH⟩:=Fp.newCell hH (ZP a0_)
 replace hH:Fp _ _ _ [.cel id1 (ZP a0_)]:=hH
 obtain ⟨id3,H4,hid3,hH4,hH⟩:=Fp.newCell hH (ZQ a1_)
 replace hH:Fp _ _ _ [.cel id3 (ZQ a1_),.cel id1 (ZP a0_)]:=hH
 obtain ⟨id5,H6,hid5,hH6,hH⟩:=Fp.newCell hH (ZV a2_)
 replace hH:Fp _ _ _ [.cel id5 (ZV a2_),.cel id3 (ZQ a1_),.cel id1 (ZP a0_)]:=hH
 obtain ⟨id7,H8,hid7,hH8,hH⟩:=Fp.newCell hH [iv a3_]
 replace hH:Fp _ _ _ [.cel id7 [iv a3_],.cel id5 (ZV a2_),.cel id3 (ZQ a1_),.cel id1 (ZP a0_)]:=hH
 refine rg (ZO.h 0 (Zbb (H:=H) (v:=.agg (ZP a0_)) (hid:=hid1) (hH:=hH2)) (ZO.h 0 (Zbb (H:=H2) (v:=.agg (ZQ a1_)) (hid:=hid3) (hH:=hH4)) (ZO.h 0 (Zbb (H:=H4) (v:=.agg (ZV a2_)) (hid:=hid5) (hH:=hH6)) (ZO.h 0 (Zbb (H:=H6) (v:=iv a3_) (hid:=hid7) (hH:=hH8)) ZO.f)))) (tq (sq (rg ZO.f (tq (rt ?_)))))
 cases h
 exact ⟨[.fn 67 [] [.ptr id5 0,.ptr id7 0,.ptr id1 0,.ptr id3 0]],kr,id5,id7,id1,id3,rfl,Fp.pk hH [1,0,3,2] rfl⟩
theorem Zgq (N:Nat)(a0_:Zah)(a1_:Int)(a2_:Int)(a3_:Int)(r:Int)(h:Zfc N a0_ a1_ a2_ a3_=some r):PCall Try.prog 43 [.agg (ZaN a0_),iv a1_,iv a2_,iv a3_] (iv r):=by
 unfold Zfc at h
 have hH  := hp0
 refine Zal ZAk rfl rfl (Z5 _ _ _ ?_) rfl
 refine sq (rg ZO.f (tq (sq (sq ?_))))
 obtain ⟨r1,hr1,h⟩:=bs h
 refine rg (ZO.v 1 (Z7 (hc:=Zgr N a0_ r1 hr1)) ZO.f) (tq (sq (rg ZO.f (tq (it h (λhc2 h=>?_) (λhc2 h=>?_))))))
 ·refine sq (rg ZO.f (tq (rt (tr ?_))))
  cases h
  exact Zab kr
 refine sk (tq (kq (sq (sq (rgX ⟨[(36,bv ((decide (a1_<0))||((decide (a1_≥8))||((decide (a2_<(-1099511627776)))||((decide (a2_>1099511627776))||((decide (a3_<0))||(decide (a3_>1099511627776))))))))],[],[]⟩ ?_ ?_)))))
 ·rcases Bool.eq_false_or_eq_true (decide (a1_<0)) with hc3|hc4
  ·exact (EP.u 1 (ZX (c:=(decide (a1_<0))) (h:=hc3)) (EP.f (by simp only [hc3];kernel_rfl)))
  refine (EP.u 1 (ZX (c:=(decide (a1_<0))) (h:=hc4)) ?_)
  rcases Bool.eq_false_or_eq_true (decide (a1_≥8)) with hc5|hc6
  ·exact (EP.u 2 (ZX (c:=(decide (a1_≥8))) (h:=hc5)) (EP.f (by simp only [hc4,hc5];kernel_rfl)))
  refine (EP.u 2 (ZX (c:=(decide (a1_≥8))) (h:=hc6)) ?_)
  rcases Bool.eq_false_or_eq_true (decide (a2_<(-1099511627776))) with hc7|hc8
  ·exact (EP.u 3 (ZX (c:=(decide (a2_<(-1099511627776)))) (h:=hc7)) (EP.f (by simp only [hc4,hc6,hc7];kernel_rfl)))
  refine (EP.u 3 (ZX (c:=(decide (a2_<(-1099511627776)))) (h:=hc8)) ?_)
  rcases Bool.eq_false_or_eq_true (decide (a2_>1099511627776)) with hc9|a0
  ·exact (EP.u 3 (ZX (c:=(decide (a2_>1099511627776))) (h:=hc9)) (EP.f (by simp only [hc4,hc6,hc8,hc9];kernel_rfl)))
  refine (EP.u 3 (ZX (c:=(decide (a2_>1099511627776))) (h:=a0)) ?_)
  rcases Bool.eq_false_or_eq_true (decide (a3_<0)) with a2|a1
  ·exact (EP.u 3 (ZX (c:=(decide (a3_<0))) (h:=a2)) (EP.f (by simp only [hc4,hc6,hc8,a0,a2];kernel_rfl)))
  exact (EP.u 3 (ZX (c:=(decide (a3_<0))) (h:=a1)) (EP.f (by simp only [hc4,hc6,hc8,a0,a1];kernel_rfl)))
 refine tq (it h (λa3 h=>?_) (λa3 h=>?_))
 ·refine sq (rg ZO.f (tq (rt (tr ?_))))
  cases h
  exact Zab kr
 refine sk (tq (kq (sq (rg ZO.f (tq (rt ?_))))))
 cases h
 exact Zab kr
theorem Zfb (N:Nat)(a0_:Zah)(a1_:Int)(r:Int×Int)(h:ZeM N a0_ a1_=some r):PCall Try.prog 44 [.agg (ZaN a0_),iv a1_] (.tup [iv r.1,iv r.2]):=by
 unfold ZeM at h
 have hH  := hp0
 refine Zal ZAj rfl rfl (Z5 _ _ _ ?_) rfl
 refine sq (rg ZO.f (tq (Zk0 (Zlm 0 kr ?_))))
 obtain ⟨m1,hm1,h⟩:=bs h
 obtain ⟨m2,hm2,h⟩:=bs h
 refine rq (ZO.u 3 (Z0 (ys:=[iv a1_,iv a0_.Cycle]) (h:=ZcE hm1)) (ZO.u 5 (Z0 (ys:=[iv (w64 (m1+a0_.Cycle)),iv a0_.Cycle]) (h:=ZcE hm2)) ZO.f)) (⟨rfl,?_⟩)
 obtain ⟨a8,a0,h⟩:=bs h
 refine ZjT.mk (λ(x:Int×Int) s=>s=⟨[(1,iv x.1),(2,.loc 2 0),(4,iv x.2)],[(2,(ZaN a0_))],[]⟩) (λx:Int×Int=>ZdQ N a0_ x.1 x.2) (λ(p:Int×Int) e s=>e=.ret/\∃ xs,resL s i44.res=some xs/\Zbd xs=.tup [iv p.1,iv p.2]) a0 kr ?_ ?_
 ·clear h a0
  rintro ⟨i3,i4⟩ o s h hR
  obtain rfl:=hR
  replace h:ZdQ N a0_ i3 i4=some o:=h
  unfold ZdQ at h
  refine sq (sq ?_)
  obtain ⟨a7,a3,h⟩:=bs h
  refine rg (ZO.u 4 (Z0 (ys:=[Z3 false a0_.Entries,iv i4]) (h:=ZY Z4 a3)) (ZO.u 1 (Zae (sz:=2) (off:=1) (cs:=[.int .i64 a7.Long]) (r:=iv a7.Long) Z4 a3) ZO.f)) (tq (it h (λa4 h=>?_) (λa4 h=>?_)))
  ·refine sq ?_
   obtain ⟨a6,a2,h⟩:=bs h
   refine rg (ZO.u 4 (Z0 (ys:=[Z3 false a0_.Entries,iv i4]) (h:=ZY Z4 a2)) (ZO.u 1 (Zae (sz:=2) (off:=1) (cs:=[.int .i64 a6.Long]) (r:=iv a6.Long) Z4 a2) ZO.f)) (tq (sq (rg ZO.f (tq (ZmL (tg ?_))))))
   cases h
   exact ⟨rfl,_,rfl,kr⟩
  refine sk (tq (kq (sq ?_)))
  obtain ⟨a5,a1,h⟩:=bs h
  refine rq (ZO.u 4 (Z0 (ys:=[Z3 false a0_.Entries,iv i4]) (h:=ZY Z4 a1)) (ZO.u 1 (Zaz (Zae (sz:=2) (off:=1) (cs:=[.int .i64 a5.Long]) (r:=iv a5.Long) Z4 a1)) ZO.f)) (tq (rt ?_))
  cases h
  exact ⟨_,rfl,rfl,Zab kr⟩
 rintro e s _ hq
 obtain ⟨rfl,hq⟩:=hq
 cases h
 exact hq
theorem ZhY (N:Nat)(a0_:Zah)(a1_:Int)(a2_:Int->Option (Bool))(a2_f:Nat)(a2_p a2_c:List AV)(ha2_n:(noLocL a2_p&&noLocL a2_c)=true)(its:List Zap)(ha2_:∀ (H:List HO) (x0:Int) (r:Bool),HP H its->a2_ x0=some r->Zd1 Try.prog (.fn a2_f a2_p a2_c) [iv x0] H (bv r) H)(H:List HO)(hH:HP H (its))(r:Int)(h:Zfa N a0_ a1_ a2_=some r):Za4 Try.prog 45 [.agg (ZaN a0_),iv a1_,.fn a2_f a2_p a2_c] H (iv r) H:=by
 unfold Zfa at h
 refine Zbf ZAi rfl (by simpa [noLocL,Zaw.noLocL,Zaw] using ha2_n) rfl (Z5 _ _ _ (sq (rg ZO.f (tq (sq ?_)))))
 obtain ⟨r1,hr1,h⟩:=bs h
 refine rg (ZO.v 2 (Z7 (hc:=Zfb N a0_ a1_ r1 hr1)) ZO.f) (tq (sq (rg ZO.f (tq (sq (sq (rg (ZO.u 2 (Z0 (ys:=[Z3 false a0_.Entries]) (h:=Z6 Z4)) ZO.f) (tq (bk ?_)))))))))
 obtain ⟨a5,a1,h⟩:=bs h
 refine ZaG ((Zat (λ(x:Int×Int×Int×Int) s=>s=⟨[(2,.fn a2_f a2_p a2_c),(3,.loc 3 0),(7,iv x.1),(8,iv x.2.1),(9,iv x.2.2.1),(19,iv (w64 (((List.length a0_.Entries:Nat):Int)+1))),(20,iv x.2.2.2)],[(3,(ZaN a0_))],H⟩) (λx:Int×Int×Int×Int=>Zcy N a0_ a2_ x.1 x.2.1 x.2.2.1 x.2.2.2) (λ(p:(Unit)⊕(Int)) e s=>match p with|(.inl p)=>e=.exit 0/\(s=⟨[(3,.loc 3 0)],[(3,(ZaN a0_))],H⟩)|(.inr p)=>e=.ret/\∃ xs,rawL s i45.res=some xs/\Zbd (weakVs xs)=iv p/\s.H=H) ?_ N _ a5 _ a1 kr).mono ?_)
 ·clear h a1
  rintro ⟨i2,i3,i4,i5⟩ o s h hR
  obtain rfl:=hR
  replace h:Zcy N a0_ a2_ i2 i3 i4 i5=some o:=h
  unfold Zcy at h
  refine sq (rg ZO.f (tq (sq (it h (λa9 h=>?_) (λa9 h=>?_)))))
  ·refine sk (tq (kq (sq (bk (sq (sq ?_))))))
   obtain ⟨a0,a3,h⟩:=bs h
   obtain ⟨ac,a6,h⟩:=bs h
   have a4:=ha2_ _ a0.Mask _ hH a6
   refine rg (ZO.u 4 (Z0 (ys:=[Z3 false a0_.Entries,iv i2]) (h:=ZY Z4 a3)) (ZO.u 1 (Zae (sz:=2) (off:=0) (cs:=[.int .i64 a0.Mask]) (r:=iv a0.Mask) Z4 a3) (ZO.v 0 (ZbF (H:=H) (ys:=[iv a0.Mask]) (hc:=a4)) ZO.f))) (tq (it h (λa8 h=>?_) (λa8 h=>?_)))
   ·refine sq (rg ZO.f (tq (rt (tr (br (tr ?_))))))
    cases h
    exact ⟨_,rfl,rfl,Za0 kr kr⟩
   refine sk (tq (kq (sq (rg ZO.f (tq (sq ?_))))))
   obtain ⟨ab,a7,h⟩:=bs h
   refine rg (ZO.u 4 (Z0 (ys:=[Z3 false a0_.Entries]) (h:=Z6 Z4)) (ZO.u 0 (Z0 (ys:=[iv (w64 (i2+1)),iv ((List.length a0_.Entries:Nat):Int)]) (h:=ZcE a7)) ZO.f)) (tq ?_)
   obtain ⟨aa,a2,h⟩:=bs h
   refine rg (ZO.u 3 (Z0 (ys:=[Z3 false a0_.Entries,iv ab]) (h:=ZY Z4 a2)) (ZO.u 1 (Zae (sz:=2) (off:=1) (cs:=[.int .i64 aa.Long]) (r:=iv aa.Long) Z4 a2) ZO.f)) (bn (tq (kq (rg ZO.f ?_))))
   cases h
   exact ⟨_,rfl,kr⟩
  refine kq (xq (tx ?_))
  cases h
  exact ⟨_,rfl,rfl,kr⟩
 rintro e s hq
 rcases a5 with ae|ad
 ·dsimp only at h hq
  obtain ⟨rfl,hR⟩:=hq
  obtain rfl:=hR
  refine bx (tq (sq (rg ZO.f (tq (rt ?_)))))
  cases h
  exact Za0 kr kr
 dsimp only at h hq
 obtain ⟨rfl,hq⟩:=hq
 refine br (tr ?_)
 cases h
 exact hq
theorem ZiJ (N:Nat)(a0_:Int)(c0_:Int)(k0_:Nat)(H:List HO)(hH:HP H [.cel k0_ [iv c0_]])(r:Bool)(h:Zej N a0_ c0_=some r):Za4 Try.prog 46 [iv a0_,.ptr k0_ 0] H (bv r) H:=by
 unfold Zej at h
 refine Zbf ZAh rfl rfl rfl (Z5 _ _ _ (sq (rg ZO.f (tq (sq ?_)))))
 have hlc1:=HP.get hH 0 rfl
 refine rg (ZO.u 1 (ZW (H:=H) (id:=k0_) (off:=0) (cs:=[iv c0_]) (c:=[iv c0_]) (r:=iv c0_) (hl:=hlc1)) ZO.f) ?_
 replace hH:HP _ []:=HP.pick hH [] rfl
 refine tq (rt ?_)
 cases h
 exact Za0 kr kr
theorem Zjr (N:Nat)(a0_:Z8)(a1_:Int)(a2_:ZbK)(r:(List Bool))(h:Zg4 N a0_ a1_ a2_=some r):PCall Try.prog 49 [.agg (ZP a0_),iv a1_,.agg (ZaR a2_)] (s_eB false r):=by
 unfold Zg4 at h
 have hH  := hp0
 refine Zal ZAe rfl rfl (Z5 _ _ _ ?_) rfl
 refine sq (rg ZO.f (tq (sq ?_)))
 obtain ⟨l3,hl3,h⟩:=bs h
 obtain ⟨a1,H2,ha1,hH2,ha1b,hH⟩:=HP.make eB hH hl3
 replace hH:HP _ [.arr a1 1 false (List.map eB l3)]:=hH
 have hfa1:=Za5 (HP.get hH 0 rfl)
 refine rgS ⟨[(1,iv a1_),(3,.loc 3 0),(5,.loc 5 0),(7,a1)],[(3,(ZP a0_)),(5,(ZaR a2_))],H2⟩ (ZO.h 2 (Zgw (H:=[]) (zero:=[.bool false]) (bytes:=1) kr kr kr ha1 hH2 ha1b) ZO.f) (by cases hfa1<;>kernel_rfl) (tq (sq ?_))
 obtain ⟨e4,he4,h⟩:=bs h
 obtain ⟨id5,ver6,_,hid5f,hid5,hid5a,hid5v⟩:=HP.elem (k:=0) (a:=a1) (sz:=1) (frz:=false) eB hH rfl he4
 obtain ⟨H7,hH7,hH⟩:=HP.setRow (k:=0) (off:=0) (cs:=[bv true]) (ps:=[.bool true]) (e':=true) eB hH rfl hid5a hid5 (hid5f rfl) he4 kr kr
 replace hH:HP _ [.arr a1 1 false (List.map eB (List.set l3 (Int.toNat a1_) true))]:=hH
 refine rgS ⟨[(3,.loc 3 0),(5,.loc 5 0),(7,a1)],[(3,(ZP a0_)),(5,(ZaR a2_))],H7⟩ (ZO.u 2 (Z0 (ys:=[a1,iv a1_]) (by cases hfa1<;>kernel_rfl) (hid5v .i64)) (ZO.o 0 (Zam (H:=H2) (v:=bv true) (hw:=hH7)) ZO.f)) (by cases hfa1<;>kernel_rfl) (tq (sq (sq (rgS ⟨[(3,.loc 3 0),(5,.loc 5 0),(7,a1),(17,iv a0_.Nodes),(18,iv 0)],[(3,(ZP a0_)),(5,(ZaR a2_))],H7⟩ ZO.f (by cases hfa1<;>kernel_rfl) (tq (bk ?_))))))
 obtain ⟨af,ag,h⟩:=bs h
 refine ZaG ((Zat (λ(x:Int×(List Bool)) s=>∃ (a8:AV) (H9:List HO),s=⟨[(3,.loc 3 0),(5,.loc 5 0),(7,a8),(17,iv a0_.Nodes),(18,iv x.1)],[(3,(ZP a0_)),(5,(ZaR a2_))],H9⟩/\HP H9 [.arr a8 1 false (List.map eB x.2)]) (λx:Int×(List Bool)=>Zdz N a0_ a2_ x.1 x.2) (λ(p:(List Bool)) e s=>e=.exit 0/\(∃ (ae:AV) (aA:List HO),s=⟨[(7,ae)],[],aA⟩/\HP aA [.arr ae 1 false (List.map eB p)])) ?_ N _ af _ ag ⟨a1,H7,(by show _=_;cases hfa1<;>kernel_rfl),(HP.pick hH [0] rfl)⟩).mono ?_)
 ·clear h ag
  rintro ⟨i10,bm⟩ o s h hR
  obtain ⟨a8,H9,rfl,hH⟩:=hR
  replace hH:HP _ [.arr a8 1 false (List.map eB bm)]:=hH
  have hfa8:=Za5 (HP.get hH 0 rfl)
  replace h:Zdz N a0_ a2_ i10 bm=some o:=h
  unfold Zdz at h
  refine sq (rgS ⟨[(3,.loc 3 0),(5,.loc 5 0),(7,a8),(17,iv a0_.Nodes),(18,iv i10),(19,bv (decide (i10<a0_.Nodes)))],[(3,(ZP a0_)),(5,(ZaR a2_))],H9⟩ ZO.f (by cases hfa8<;>kernel_rfl) (tq (sq (it h (λb2 h=>?_) (λb2 h=>?_)))))
  ·refine sk (tq (kq (sq (bk (sq (rgS ⟨[(3,.loc 3 0),(5,.loc 5 0),(7,a8),(17,iv a0_.Nodes),(18,iv i10),(21,ZZ false a0_.Links),(22,iv ((List.length a0_.Links:Nat):Int)),(23,iv 0)],[(3,(ZP a0_)),(5,(ZaR a2_))],H9⟩ (ZO.u 2 (Z0 (ys:=[ZZ false a0_.Links]) (h:=Z6 ZaB)) ZO.f) (by cases hfa8<;>kernel_rfl) (tq (bk ?_))))))))
   obtain ⟨aI,ai,h⟩:=bs h
   refine ZaG ((Zat (λ(x:Int×(List Bool)) s=>∃ (a3:AV) (a5:List HO),s=⟨[(3,.loc 3 0),(5,.loc 5 0),(7,a3),(17,iv a0_.Nodes),(18,iv i10),(21,ZZ false a0_.Links),(22,iv ((List.length a0_.Links:Nat):Int)),(23,iv x.1)],[(3,(ZP a0_)),(5,(ZaR a2_))],a5⟩/\HP a5 [.arr a3 1 false (List.map eB x.2)]) (λx:Int×(List Bool)=>Zdy N a0_ a2_ x.1 x.2) (λ(p:(List Bool)) e s=>e=.exit 2/\(∃ (a7:AV) (aa:List HO),s=⟨[(3,.loc 3 0),(5,.loc 5 0),(7,a7),(17,iv a0_.Nodes),(18,iv i10)],[(3,(ZP a0_)),(5,(ZaR a2_))],aa⟩/\HP aa [.arr a7 1 false (List.map eB p)])) ?_ N _ aI _ ai ⟨a8,H9,(by show _=_;cases hfa8<;>kernel_rfl),(HP.pick hH [0] rfl)⟩).mono ?_)
   ·clear h ai
    rintro ⟨a4,aB⟩ o s h hR
    obtain ⟨a3,a5,rfl,hH⟩:=hR
    replace hH:HP _ [.arr a3 1 false (List.map eB aB)]:=hH
    have a0:=Za5 (HP.get hH 0 rfl)
    replace h:Zdy N a0_ a2_ a4 aB=some o:=h
    unfold Zdy at h
    refine sq (rgS ⟨[(3,.loc 3 0),(5,.loc 5 0),(7,a3),(17,iv a0_.Nodes),(18,iv i10),(21,ZZ false a0_.Links),(22,iv ((List.length a0_.Links:Nat):Int)),(23,iv a4),(24,bv (decide (a4<((List.length a0_.Links:Nat):Int))))],[(3,(ZP a0_)),(5,(ZaR a2_))],a5⟩ ZO.f (by cases a0<;>kernel_rfl) (tq (sq (it h (λaU h=>?_) (λaU h=>?_)))))
    ·refine sk (tq (kq ?_))
     obtain ⟨aJ,aj,h⟩:=bs h
     refine Zd6 [3,5,7,17,18,21,22,23] (λs=>∃ (a6:AV) (a9:List HO),s=⟨[(3,.loc 3 0),(5,.loc 5 0),(7,a6),(17,iv a0_.Nodes),(18,iv i10),(21,ZZ false a0_.Links),(22,iv ((List.length a0_.Links:Nat):Int)),(23,iv a4)],[(3,(ZP a0_)),(5,(ZaR a2_))],a9⟩/\HP a9 [.arr a6 1 false (List.map eB aJ)]) ?_ ?_
     ·clear h
      have h:=aj
      refine bk (sq ?_)
      obtain ⟨a2,az,h⟩:=bs h
      refine rgS ⟨[(3,.loc 3 0),(5,.loc 5 0),(7,a3),(8,iv a4),(9,.loc 9 0),(17,iv a0_.Nodes),(18,iv i10),(21,ZZ false a0_.Links),(22,iv ((List.length a0_.Links:Nat):Int)),(23,iv a4)],[(3,(ZP a0_)),(5,(ZaR a2_)),(9,(Zbn a2))],a5⟩ (ZO.u 1 (Z0 (ys:=[ZZ false a0_.Links,iv a4]) (h:=ZY ZaB az)) (ZO.u 0 (Zae (sz:=4) (off:=0) (cs:=[.int .i64 a2.A,.int .i64 a2.B,.int .i64 a2.Per,.int .i64 a2.Delay]) (r:=.agg (Zbn a2)) ZaB az) (ZO.f (h:=(by cases a0<;>kernel_rfl))))) (by cases a0<;>kernel_rfl) (tq (sq ?_))
      obtain ⟨aX,hj,h⟩:=bs h
      refine rqR (λs=>s=⟨[(3,.loc 3 0),(5,.loc 5 0),(7,a3),(9,.loc 9 0),(17,iv a0_.Nodes),(18,iv i10),(21,ZZ false a0_.Links),(22,iv ((List.length a0_.Links:Nat):Int)),(23,iv a4),(44,bv aX)],[(3,(ZP a0_)),(5,(ZaR a2_)),(9,(Zbn a2))],a5⟩) ?_ ?_
      ·clear h
       obtain ⟨aM,ay,hj⟩:=bs hj
       refine (EP.u 1 (Z0 (ys:=[.loc 5 0,iv a4]) (h:=ZjX (l:=a2_.l) ay rfl)) (EP.o 0 (Zli (t:=5) (off:=0) (cs:=(ZaR a2_)) (l:=a2_.l) (λx=>bv x) [] [] ay kr kr rfl rfl) ?_))
       rcases Zau hj with ⟨aT,hj⟩|⟨aS,hj⟩
       ·refine (EP.u 0 (ZX (c:=(!aM)) (h:=aT)) ?_)
        obtain ⟨aL,ax,hj⟩:=bs hj
        obtain ⟨bl,be,_,b0,aG,b1,ar⟩:=HP.elem (k:=0) (a:=a3) (sz:=1) (frz:=false) eB hH rfl ax
        refine (EP.u 4 (Z0 (ys:=[a3,iv a2.A]) (by cases a0<;>kernel_rfl) (ar .i64)) (EP.u 0 (Zaz (Zct (H:=a5) (off:=0) (cs:=[.bool aL]) (r:=bv aL) eB ax aG)) ?_))
        obtain ⟨aK,aw,hj⟩:=bs hj
        obtain ⟨bj,bd,_,aY,aE,aZ,aq⟩:=HP.elem (k:=0) (a:=a3) (sz:=1) (frz:=false) eB hH rfl aw
        obtain rfl:=Zaa hj
        exact (EP.u 3 (Z0 (ys:=[a3,iv a2.B]) (by cases a0<;>kernel_rfl) (aq .i64)) (EP.u 0 (Zaz (Zct (H:=a5) (off:=0) (cs:=[.bool aK]) (r:=bv aK) eB aw aE)) (EP.f (by show _=_;cases a0<;>kernel_rfl))))
       obtain rfl:=Zaa hj
       exact (EP.u 0 (ZX (c:=(!aM)) (h:=aS)) (EP.f (by show _=_;cases a0<;>kernel_rfl)))
      clear hj
      rintro s hR
      obtain rfl:=hR
      refine tq (it h (λaR h=>?_) (λaR h=>?_))
      ·obtain ⟨bq,av,h⟩:=bs h
       obtain ⟨bi,bc,_,ao,aD,ap,an⟩:=HP.elem (k:=0) (a:=a3) (sz:=1) (frz:=false) eB hH rfl av
       obtain ⟨ba,aW,hH⟩:=HP.setRow (k:=0) (off:=0) (cs:=[bv true]) (ps:=[.bool true]) (e':=true) eB hH rfl ap aD (ao rfl) av kr kr
       replace hH:HP _ [.arr a3 1 false (List.map eB (List.set aB (Int.toNat a2.A) true))]:=hH
       obtain ⟨bp,au,h⟩:=bs h
       obtain ⟨bf,bb,_,al,aC,am,ak⟩:=HP.elem (k:=0) (a:=a3) (sz:=1) (frz:=false) eB hH rfl au
       obtain ⟨aQ,aV,hH⟩:=HP.setRow (k:=0) (off:=0) (cs:=[bv true]) (ps:=[.bool true]) (e':=true) eB hH rfl am aC (al rfl) au kr kr
       replace hH:HP _ [.arr a3 1 false (List.map eB (List.set (List.set aB (Int.toNat a2.A) true) (Int.toNat a2.B) true))]:=hH
       refine rqS ⟨[(3,.loc 3 0),(5,.loc 5 0),(7,a3),(17,iv a0_.Nodes),(18,iv i10),(21,ZZ false a0_.Links),(22,iv ((List.length a0_.Links:Nat):Int)),(23,iv a4)],[(3,(ZP a0_)),(5,(ZaR a2_))],aQ⟩ (ZO.u 6 (Z0 (ys:=[a3,iv a2.A]) (by cases a0<;>kernel_rfl) (an .i64)) (ZO.o 0 (ZhB (Zam (H:=a5) (v:=bv true) (hw:=aW)) kr) (ZO.u 0 (Z0 (ys:=[a3,iv a2.B]) (by cases a0<;>kernel_rfl) (ak .i64)) (ZO.o 0 (ZhB (Zam (H:=ba) (v:=bv true) (hw:=aV)) kr) ZO.f)))) (by cases a0<;>kernel_rfl) (bn ?_)
       cases h
       exact ⟨rfl,⟨a3,aQ,(by show _=_;cases a0<;>kernel_rfl),(HP.pick hH [0] rfl)⟩⟩
      refine sk (bn ?_)
      cases h
      exact ⟨rfl,⟨a3,a5,(by show _=_;cases a0<;>kernel_rfl),(HP.pick hH [0] rfl)⟩⟩
     clear aj
     rintro s hR
     obtain ⟨a6,a9,rfl,hH⟩:=hR
     replace hH:HP _ [.arr a6 1 false (List.map eB aJ)]:=hH
     have ac:=Za5 (HP.get hH 0 rfl)
     refine rgS ⟨[(3,.loc 3 0),(5,.loc 5 0),(7,a6),(17,iv a0_.Nodes),(18,iv i10),(21,ZZ false a0_.Links),(22,iv ((List.length a0_.Links:Nat):Int)),(23,iv (w64 (a4+1)))],[(3,(ZP a0_)),(5,(ZaR a2_))],a9⟩ ZO.f (by cases ac<;>kernel_rfl) ?_
     cases h
     exact ⟨_,rfl,⟨a6,a9,(by show _=_;cases ac<;>kernel_rfl),(HP.pick hH [0] rfl)⟩⟩
    refine kq (xq (tx ?_))
    cases h
    exact ⟨_,rfl,rfl,⟨a3,a5,(by show _=_;cases a0<;>kernel_rfl),(HP.pick hH [0] rfl)⟩⟩
   rintro e s hq
   obtain ⟨rfl,hR⟩:=hq
   obtain ⟨a7,aa,rfl,hH⟩:=hR
   replace hH:HP _ [.arr a7 1 false (List.map eB aI)]:=hH
   have ad:=Za5 (HP.get hH 0 rfl)
   refine bx (bn (tq (rgS ⟨[(3,.loc 3 0),(5,.loc 5 0),(7,a7),(17,iv a0_.Nodes),(18,iv (w64 (i10+1)))],[(3,(ZP a0_)),(5,(ZaR a2_))],aa⟩ ZO.f (by cases ad<;>kernel_rfl) ?_)))
   cases h
   exact ⟨_,rfl,⟨a7,aa,(by show _=_;cases ad<;>kernel_rfl),(HP.pick hH [0] rfl)⟩⟩
  refine kq (xq (tx ?_))
  cases h
  exact ⟨_,rfl,rfl,⟨a8,H9,(by show _=_;cases hfa8<;>kernel_rfl),(HP.pick hH [0] rfl)⟩⟩
 rintro e s hq
 obtain ⟨rfl,hR⟩:=hq
 obtain ⟨ae,aA,rfl,hH⟩:=hR
 replace hH:HP _ [.arr ae 1 false (List.map eB af)]:=hH
 have ab:=Za5 (HP.get hH 0 rfl)
 refine bx (tq (sq (rgS ⟨[(6,ae)],[],aA⟩ ZO.f (by cases ab<;>kernel_rfl) (tq (rt ?_)))))
 obtain rfl:=Zaa h
 exact Zb8 (H:=aA) (ys:=[ae]) (xs:=[.p (.sl 1 false (List.map eB af))]) (by cases ab<;>kernel_rfl) (by cases ab<;>kernel_rfl) (ZaA (HP.pure (k:=0) (frz:=false) eB hH rfl).2 Za3) kr
theorem Zhd (N:Nat)(c0_:Z9)(k0_:Nat)(H:List HO)(hH:HP H [.cel k0_ (ZV c0_)])(r:Bool)(h:Zev N c0_=some r):Za4 Try.prog 50 [.ptr k0_ 0] H (bv r) H:=by
 unfold Zev at h
 refine Zbf ZAd rfl rfl rfl (Z5 _ _ _ (sq (rg ZO.f (tq (sq ?_)))))
 have hlc1:=HP.get hH 0 rfl
 obtain ⟨r2,hr2,h⟩:=bs h
 refine rg (ZO.u 1 (ZW (H:=H) (id:=k0_) (off:=0) (cs:=(ZV c0_)) (c:=[iv c0_.Id]) (r:=iv c0_.Id) (hl:=hlc1)) (ZO.v 0 (Z7 (hc:=ZaK N c0_.Id 1 4095 r2 hr2)) ZO.f)) ?_
 replace hH:HP _ []:=HP.pick hH [] rfl
 refine tq (rt ?_)
 cases h
 exact Za0 kr kr
theorem Zcd (N:Nat)(a0_:Z8)(a1_:Int)(r:Bool)(h:Zc6 N a0_ a1_=some r):PCall Try.prog 52 [.agg (ZP a0_),iv a1_] (bv r):=by
 unfold Zc6 at h
 have hH  := hp0
 refine Zal ZAb rfl rfl (Z5 _ _ _ ?_) rfl
 refine sq (rg ZO.f (tq (sq ?_)))
 obtain ⟨j5,hj,h⟩:=bs h
 refine rgR (λs=>s=⟨[(4,bv j5)],[],[]⟩) ?_ ?_
 ·clear h
  obtain ⟨r1,hr1,hj⟩:=bs hj
  rcases Zau hj with ⟨hc2,hj⟩|⟨hc4,hj⟩
  ·refine (EP.h 4 (Zb3 kr (ZaK N a1_ 0 (w64 (a0_.Nodes-1)) r1 hr1) hc2) ?_)
   obtain ⟨e3,he3,hj⟩:=bs hj
   obtain rfl:=Zaa hj
   exact (EP.u 4 (Z0 (ys:=[s_eB false a0_.Station,iv a1_]) (h:=ZY eB he3)) (EP.u 0 (Zae (sz:=1) (off:=0) (cs:=[.bool e3]) (r:=bv e3) eB he3) (EP.f kr)))
  obtain rfl:=Zaa hj
  exact (EP.h 4 (Zb3 kr (ZaK N a1_ 0 (w64 (a0_.Nodes-1)) r1 hr1) hc4) (EP.f kr))
 clear hj
 rintro s hR
 obtain rfl:=hR
 refine tq (rt ?_)
 cases h
 exact Zab kr
theorem Zhb (N:Nat)(c0_:Z9)(k0_:Nat)(H:List HO)(hH:HP H [.cel k0_ (ZV c0_)])(r:Bool)(h:Zet N c0_=some r):Za4 Try.prog 53 [.ptr k0_ 0] H (bv r) H:=by
 unfold Zet at h
 refine Zbf ZAa rfl rfl rfl (Z5 _ _ _ (sq (rg ZO.f (tq (sq ?_)))))
 have hlc1:=HP.get hH 0 rfl
 obtain ⟨r2,hr2,h⟩:=bs h
 refine rg (ZO.u 1 (ZW (H:=H) (id:=k0_) (off:=4) (cs:=(ZV c0_)) (c:=[iv c0_.Size]) (r:=iv c0_.Size) (hl:=hlc1)) (ZO.v 0 (Z7 (hc:=ZaK N c0_.Size 84 1542 r2 hr2)) ZO.f)) ?_
 replace hH:HP _ []:=HP.pick hH [] rfl
 refine tq (rt ?_)
 cases h
 exact Za0 kr kr
theorem Zha (N:Nat)(c0_:Z9)(k0_:Nat)(H:List HO)(hH:HP H [.cel k0_ (ZV c0_)])(r:Bool)(h:Zes N c0_=some r):Za4 Try.prog 54 [.ptr k0_ 0] H (bv r) H:=by
 unfold Zes at h
 refine Zbf Zz9 rfl rfl rfl (Z5 _ _ _ (sq (rg ZO.f (tq (sq ?_)))))
 have hlc1:=HP.get hH 0 rfl
 obtain ⟨r2,hr2,h⟩:=bs h
 refine rg (ZO.u 1 (ZW (H:=H) (id:=k0_) (off:=8) (cs:=(ZV c0_)) (c:=[iv c0_.Deadline]) (r:=iv c0_.Deadline) (hl:=hlc1)) (ZO.v 0 (Z7 (hc:=ZaK N c0_.Deadline 1 1099511627776 r2 hr2)) ZO.f)) ?_
 replace hH:HP _ []:=HP.pick hH [] rfl
 refine tq (rt ?_)
 cases h
 exact Za0 kr kr
theorem Zg8 (N:Nat)(c0_:Z9)(k0_:Nat)(H:List HO)(hH:HP H [.cel k0_ (ZV c0_)])(r:Bool)(h:Zeq N c0_=some r):Za4 Try.prog 57 [.ptr k0_ 0] H (bv r) H:=by
 unfold Zeq at h
 refine Zbf Zz6 rfl rfl rfl (Z5 _ _ _ (sq (rg ZO.f (tq (sq ?_)))))
 have hlc1:=HP.get hH 0 rfl
 obtain ⟨r2,hr2,h⟩:=bs h
 refine rg (ZO.u 1 (ZW (H:=H) (id:=k0_) (off:=9) (cs:=(ZV c0_)) (c:=[Zar false c0_.Routes]) (r:=Zar false c0_.Routes) (hl:=hlc1)) (ZO.u 0 (Z0 (ys:=[Zar false c0_.Routes]) (h:=Z6 (eSl 1 eI64))) (ZO.v 0 (Z7 (hc:=ZaK N ((List.length c0_.Routes:Nat):Int) 1 2 r2 hr2)) ZO.f))) ?_
 replace hH:HP _ []:=HP.pick hH [] rfl
 refine tq (rt ?_)
 cases h
 exact Za0 kr kr
theorem Ziv {σ:Type}(N:Nat)(y_:σ->Zax->Zax->Option (σ×Bool))(c0_:Zaf)(c1_:Int)(c2_:Int)(s_:σ)(k0_:Nat)(k1_:Nat)(k2_:Nat)(yid_:Nat)(T_:σ->List Zap->Prop)(hy_:∀ (x0:Zax) (x1:Zax) (s:σ) (r:σ×Bool) (H:List HO) (its:List Zap),T_ s its->HP H its->y_ s x0 x1=some r->∃ H' its',Zd4 Try.prog yid_ [.agg [iv x0.Stream,iv x0.Port,iv x0.From,iv x0.Long],.agg [iv x1.Stream,iv x1.Port,iv x1.From,iv x1.Long]] H r.2 H'/\T_ r.1 its'/\Fp H H' its its')(H:List HO)(its:List Zap)(hT:T_ s_ its)(hH:HP H (.cel k0_ (ZS c0_)::.cel k1_ [iv c1_]::.cel k2_ [iv c2_]::its))(r:σ)(h:ZfI N y_ c0_ c1_ c2_ s_=some r):∃ H' its',Za4 Try.prog 62 [.yl yid_,.ptr k0_ 0,.ptr k1_ 0,.ptr k2_ 0] H (.tup []) H'/\T_ r its'/\Fp H H' (.cel k0_ (ZS c0_)::.cel k1_ [iv c1_]::.cel k2_ [iv c2_]::its) (.cel k0_ (ZS c0_)::.cel k1_ [iv c1_]::.cel k2_ [iv c2_]::its'):=by
 suffices hs:∃ H',Za4 Try.prog 62 [.yl yid_,.ptr k0_ 0,.ptr k1_ 0,.ptr k2_ 0] H (.tup []) H'/\∃ its',T_ r its'/\Fp H H' (.cel k0_ (ZS c0_)::.cel k1_ [iv c1_]::.cel k2_ [iv c2_]::its) (.cel k0_ (ZS c0_)::.cel k1_ [iv c1_]::.cel k2_ [iv c2_]::its') by
  obtain ⟨H',h1,its',h2,h3⟩:=hs
  exact ⟨H',its',h1,h2,h3⟩
 unfold ZfI at h
 replace hH:Fp H H (.cel k0_ (ZS c0_)::.cel k1_ [iv c1_]::.cel k2_ [iv c2_]::its) (.cel k0_ (ZS c0_)::.cel k1_ [iv c1_]::.cel k2_ [iv c2_]::its):=Fp.refl hH
 refine ZfU Zz1 (λH'=>∃ its',T_ r its'/\Fp H H' (.cel k0_ (ZS c0_)::.cel k1_ [iv c1_]::.cel k2_ [iv c2_]::its) (.cel k0_ (ZS c0_)::.cel k1_ [iv c1_]::.cel k2_ [iv c2_]::its')) rfl rfl rfl (sq ?_)
 have hlc1:=Fp.get hH 0 rfl
 refine rg (ZO.u 1 (ZW (H:=H) (id:=k0_) (off:=1) (cs:=(ZS c0_)) (c:=[Zas false c0_.Uses]) (r:=Zas false c0_.Uses) (hl:=hlc1)) (ZO.u 0 (Z0 (ys:=[Zas false c0_.Uses]) (h:=Z6 Z2)) ZO.f)) (tq (bk ?_))
 obtain ⟨ag,a9,h⟩:=bs h
 refine ZaG ((Zat (λ(x:Int×σ) s=>∃ (its2:List Zap) (H3:List HO),s=⟨[(0,.yl yid_),(1,.ptr k0_ 0),(2,.ptr k1_ 0),(3,.ptr k2_ 0),(10,Zas false c0_.Uses),(11,iv ((List.length c0_.Uses:Nat):Int)),(12,iv x.1)],[],H3⟩/\T_ x.2 its2/\Fp H H3 (.cel k0_ (ZS c0_)::.cel k1_ [iv c1_]::.cel k2_ [iv c2_]::its) (.cel k0_ (ZS c0_)::.cel k1_ [iv c1_]::.cel k2_ [iv c2_]::its2)) (λx:Int×σ=>ZcS N y_ c0_ c1_ c2_ x.1 x.2) (λ(p:(σ)⊕(σ)) e s=>match p with|(.inl p)=>e=.exit 0/\(∃ (a3:List Zap) (af:List HO),s=⟨[],[],af⟩/\T_ p a3/\Fp H af (.cel k0_ (ZS c0_)::.cel k1_ [iv c1_]::.cel k2_ [iv c2_]::its) (.cel k0_ (ZS c0_)::.cel k1_ [iv c1_]::.cel k2_ [iv c2_]::a3))|(.inr p)=>e=.ret/\∃ xs,rawL s i62.res=some xs/\Zbd xs=.tup []/\∃ its',T_ p its'/\Fp H s.H (.cel k0_ (ZS c0_)::.cel k1_ [iv c1_]::.cel k2_ [iv c2_]::its) (.cel k0_ (ZS c0_)::.cel k1_ [iv c1_]::.cel k2_ [iv c2_]::its')) ?_ N _ ag _ a9 ⟨its,H,kr,hT,Fp.at hH⟩).mono ?_)
 ·clear h a9
  rintro ⟨i4,g5⟩ o s h hR
  obtain ⟨its2,H3,rfl,hT,hH⟩:=hR
  replace hH:Fp H H3 (.cel k0_ (ZS c0_)::.cel k1_ [iv c1_]::.cel k2_ [iv c2_]::its) (.cel k0_ (ZS c0_)::.cel k1_ [iv c1_]::.cel k2_ [iv c2_]::its2):=hH
  replace h:ZcS N y_ c0_ c1_ c2_ i4 g5=some o:=h
  unfold ZcS at h
  refine sq (rg ZO.f (tq (sq (it h (λaA h=>?_) (λaA h=>?_)))))
  ·refine sk (tq (kq (sq (bk (sq ?_)))))
   obtain ⟨a4,aj,h⟩:=bs h
   refine rg (ZO.u 1 (Z0 (ys:=[Zas false c0_.Uses,iv i4]) (h:=ZY Z2 aj)) (ZO.u 0 (Zae (sz:=4) (off:=0) (cs:=[.int .i64 a4.Stream,.int .i64 a4.Port,.int .i64 a4.From,.int .i64 a4.Long]) (r:=.agg (ZaJ a4)) Z2 aj) ZO.f)) (tq (sq (sq ?_)))
   have an:=Fp.get hH 1 rfl
   refine rg (ZO.u 2 (ZW (H:=H3) (id:=k1_) (off:=0) (cs:=[iv c1_]) (c:=[iv c1_]) (r:=iv c1_) (hl:=an)) ZO.f) (tq (it h (λaz h=>?_) (λaz h=>?_)))
   ·refine kq (xq (tx (bx (tq (kq (rg ZO.f ?_))))))
    cases h
    exact ⟨_,rfl,⟨its2,H3,kr,hT,Fp.at hH⟩⟩
   refine sk (tq (kq (sq ?_)))
   have am:=Fp.get hH 0 rfl
   refine rg (ZO.u 1 (ZW (H:=H3) (id:=k0_) (off:=1) (cs:=(ZS c0_)) (c:=[Zas false c0_.Uses]) (r:=Zas false c0_.Uses) (hl:=am)) (ZO.u 0 (Z0 (ys:=[Zas false c0_.Uses]) (h:=Z6 Z2)) ZO.f)) (tq (bk ?_))
   obtain ⟨ai,aa,h⟩:=bs h
   refine ZaG ((Zat (λ(x:Int×σ) s=>∃ (a0:List Zap) (a5:List HO),s=⟨[(0,.yl yid_),(1,.ptr k0_ 0),(2,.ptr k1_ 0),(3,.ptr k2_ 0),(5,iv i4),(6,.loc 6 0),(10,Zas false c0_.Uses),(11,iv ((List.length c0_.Uses:Nat):Int)),(12,iv i4),(22,Zas false c0_.Uses),(23,iv ((List.length c0_.Uses:Nat):Int)),(24,iv x.1)],[(6,(ZaJ a4))],a5⟩/\T_ x.2 a0/\Fp H a5 (.cel k0_ (ZS c0_)::.cel k1_ [iv c1_]::.cel k2_ [iv c2_]::its) (.cel k0_ (ZS c0_)::.cel k1_ [iv c1_]::.cel k2_ [iv c2_]::a0)) (λx:Int×σ=>ZcR N y_ c0_ c2_ i4 a4 x.1 x.2) (λ(p:(σ)⊕(σ)) e s=>match p with|(.inl p)=>e=.exit 2/\(∃ (a2:List Zap) (a7:List HO),s=⟨[(0,.yl yid_),(1,.ptr k0_ 0),(2,.ptr k1_ 0),(3,.ptr k2_ 0),(10,Zas false c0_.Uses),(11,iv ((List.length c0_.Uses:Nat):Int)),(12,iv i4)],[],a7⟩/\T_ p a2/\Fp H a7 (.cel k0_ (ZS c0_)::.cel k1_ [iv c1_]::.cel k2_ [iv c2_]::its) (.cel k0_ (ZS c0_)::.cel k1_ [iv c1_]::.cel k2_ [iv c2_]::a2))|(.inr p)=>e=.ret/\∃ xs,rawL s i62.res=some xs/\Zbd xs=.tup []/\∃ its',T_ p its'/\Fp H s.H (.cel k0_ (ZS c0_)::.cel k1_ [iv c1_]::.cel k2_ [iv c2_]::its) (.cel k0_ (ZS c0_)::.cel k1_ [iv c1_]::.cel k2_ [iv c2_]::its')) ?_ N _ ai _ aa ⟨its2,H3,kr,hT,Fp.at hH⟩).mono ?_)
   ·clear h aa
    rintro ⟨a8,aB⟩ o s h hR
    obtain ⟨a0,a5,rfl,hT,hH⟩:=hR
    replace hH:Fp H a5 (.cel k0_ (ZS c0_)::.cel k1_ [iv c1_]::.cel k2_ [iv c2_]::its) (.cel k0_ (ZS c0_)::.cel k1_ [iv c1_]::.cel k2_ [iv c2_]::a0):=hH
    replace h:ZcR N y_ c0_ c2_ i4 a4 a8 aB=some o:=h
    unfold ZcR at h
    refine sq (rg ZO.f (tq (sq (it h (λaw h=>?_) (λaw h=>?_)))))
    ·refine sk (tq (kq (sq (bk (sq ?_)))))
     obtain ⟨a1,ab,h⟩:=bs h
     refine rg (ZO.u 1 (Z0 (ys:=[Zas false c0_.Uses,iv a8]) (h:=ZY Z2 ab)) (ZO.u 0 (Zae (sz:=4) (off:=0) (cs:=[.int .i64 a1.Stream,.int .i64 a1.Port,.int .i64 a1.From,.int .i64 a1.Long]) (r:=.agg (ZaJ a1)) Z2 ab) ZO.f)) (tq (sq (sq ?_)))
     obtain ⟨ay,hj,h⟩:=bs h
     refine rgR (λs=>s=⟨[(0,.yl yid_),(1,.ptr k0_ 0),(2,.ptr k1_ 0),(3,.ptr k2_ 0),(5,iv i4),(6,.loc 6 0),(8,.loc 8 0),(10,Zas false c0_.Uses),(11,iv ((List.length c0_.Uses:Nat):Int)),(12,iv i4),(22,Zas false c0_.Uses),(23,iv ((List.length c0_.Uses:Nat):Int)),(24,iv a8),(44,bv ay)],[(6,(ZaJ a4)),(8,(ZaJ a1))],a5⟩) ?_ ?_
     ·clear h
      rcases Zau hj with ⟨av,hj⟩|⟨au,hj⟩
      ·obtain rfl:=Zaa hj
       exact (EP.u 2 (ZX (c:=(a8==i4)) (h:=av)) (EP.f kr))
      refine (EP.u 2 (ZX (c:=(a8==i4)) (h:=au)) ?_)
      have ad:=Fp.get hH 2 rfl
      refine (EP.u 3 (ZW (H:=a5) (id:=k2_) (off:=0) (cs:=[iv c2_]) (c:=[iv c2_]) (r:=iv c2_) (hl:=ad)) ?_)
      rcases Zau hj with ⟨ar,hj⟩|⟨aq,hj⟩
      ·obtain rfl:=Zaa hj
       exact (EP.u 0 (ZX (c:=(a1.Stream != c2_)) (h:=ar)) (EP.f kr))
      obtain rfl:=Zaa hj
      exact (EP.u 0 (ZX (c:=(a1.Stream != c2_)) (h:=aq)) (EP.f kr))
     clear hj
     rintro s hR
     obtain rfl:=hR
     refine tq (it h (λap h=>?_) (λap h=>?_))
     ·refine kq (xq (tx (bx (tq (kq (rg ZO.f ?_))))))
      cases h
      exact ⟨_,rfl,⟨a0,a5,kr,hT,Fp.at hH⟩⟩
     refine sk (tq (kq (sq ?_)))
     obtain ⟨ax,al,h⟩:=bs h
     obtain ⟨ak,a6,ac,hT,ae⟩:=hy_ a4 a1 aB ax a5 a0 hT (Fp.tail (own:=[.cel k0_ (ZS c0_),.cel k1_ [iv c1_],.cel k2_ [iv c2_]]) (its:=a0) hH) al
     replace hH:Fp H ak (.cel k0_ (ZS c0_)::.cel k1_ [iv c1_]::.cel k2_ [iv c2_]::its) (.cel k0_ (ZS c0_)::.cel k1_ [iv c1_]::.cel k2_ [iv c2_]::a6):=Fp.callT (own:=[.cel k0_ (ZS c0_),.cel k1_ [iv c1_],.cel k2_ [iv c2_]]) (its:=a0) hH ae
     refine rg (ZO.v 3 (ZhZ (H:=a5) (id:=yid_) (ys:=[.agg (ZaJ a4),.agg (ZaJ a1)]) kr kr kr kr ac) ZO.f) (tq (it h (λao h=>?_) (λao h=>?_)))
     ·refine rt (br (tr ?_))
      cases h
      exact ⟨_,rfl,rfl,⟨[],kr,kr,a6,hT,Fp.at hH⟩⟩
     refine sk (bn (tq (kq (rg ZO.f ?_))))
     cases h
     exact ⟨_,rfl,⟨a6,ak,kr,hT,Fp.at hH⟩⟩
    refine kq (xq (tx ?_))
    cases h
    exact ⟨_,rfl,rfl,⟨a0,a5,kr,hT,Fp.at hH⟩⟩
   rintro e s hq
   rcases ai with aG|aE
   ·dsimp only at h hq
    obtain ⟨rfl,hR⟩:=hq
    obtain ⟨a2,a7,rfl,hT,hH⟩:=hR
    replace hH:Fp H a7 (.cel k0_ (ZS c0_)::.cel k1_ [iv c1_]::.cel k2_ [iv c2_]::its) (.cel k0_ (ZS c0_)::.cel k1_ [iv c1_]::.cel k2_ [iv c2_]::a2):=hH
    refine bx (bn (tq (kq (rg ZO.f ?_))))
    cases h
    exact ⟨_,rfl,⟨a2,a7,kr,hT,Fp.at hH⟩⟩
   dsimp only at h hq
   obtain ⟨rfl,hq⟩:=hq
   refine br (br (tr ?_))
   cases h
   exact ⟨_,rfl,rfl,hq⟩
  refine kq (xq (tx ?_))
  cases h
  exact ⟨_,rfl,rfl,⟨its2,H3,kr,hT,Fp.at hH⟩⟩
 rintro e s hq
 rcases ag with aD|aC
 ·dsimp only at h hq
  obtain ⟨rfl,hR⟩:=hq
  obtain ⟨a3,af,rfl,hT,hH⟩:=hR
  replace hH:Fp H af (.cel k0_ (ZS c0_)::.cel k1_ [iv c1_]::.cel k2_ [iv c2_]::its) (.cel k0_ (ZS c0_)::.cel k1_ [iv c1_]::.cel k2_ [iv c2_]::a3):=hH
  refine bx ?_
  cases h
  exact ⟨[],kr,kr,a3,hT,Fp.at hH⟩
 dsimp only at h hq
 obtain ⟨rfl,hq⟩:=hq
 refine br ?_
 cases h
 exact hq
theorem Zdo (N:Nat)(a0_:ZaM)(r:Int)(h:ZcM N a0_=some r):PCall Try.prog 63 [.agg (ZbJ a0_)] (iv r):=by
 unfold ZcM at h
 have hH  := hp0
 refine Zal Zz0 rfl rfl (Z5 _ _ _ ?_) rfl
 refine sq (rg ZO.f (tq (sq (sq (rgX ⟨[(1,.loc 1 0),(22,bv ((decide (a0_.Period<1))||((decide (a0_.Period>960))||((decide (a0_.From<0))||(decide (a0_.From≥a0_.Period))))))],[(1,(ZbJ a0_))],[]⟩ ?_ ?_)))))
 ·rcases Bool.eq_false_or_eq_true (decide (a0_.Period<1)) with hc1|hc2
  ·exact (EP.u 2 (ZX (c:=(decide (a0_.Period<1))) (h:=hc1)) (EP.f (by simp only [hc1];kernel_rfl)))
  refine (EP.u 2 (ZX (c:=(decide (a0_.Period<1))) (h:=hc2)) ?_)
  rcases Bool.eq_false_or_eq_true (decide (a0_.Period>960)) with hc3|hc4
  ·exact (EP.u 3 (ZX (c:=(decide (a0_.Period>960))) (h:=hc3)) (EP.f (by simp only [hc2,hc3];kernel_rfl)))
  refine (EP.u 3 (ZX (c:=(decide (a0_.Period>960))) (h:=hc4)) ?_)
  rcases Bool.eq_false_or_eq_true (decide (a0_.From<0)) with hc5|hc6
  ·exact (EP.u 4 (ZX (c:=(decide (a0_.From<0))) (h:=hc5)) (EP.f (by simp only [hc2,hc4,hc5];kernel_rfl)))
  exact (EP.u 4 (ZX (c:=(decide (a0_.From<0))) (h:=hc6)) (EP.f (by simp only [hc2,hc4,hc6];kernel_rfl)))
 refine tq (it h (λhc7 h=>?_) (λhc7 h=>?_))
 ·refine sq (rg ZO.f (tq (rt (tr ?_))))
  cases h
  exact Zab kr
 refine sk (tq (kq (sq (sq (rgX ⟨[(32,bv ((decide (a0_.Long<1))||(decide (a0_.Long>a0_.Period))))],[],[]⟩ ?_ ?_)))))
 ·rcases Bool.eq_false_or_eq_true (decide (a0_.Long<1)) with hc8|hc9
  ·exact (EP.u 2 (ZX (c:=(decide (a0_.Long<1))) (h:=hc8)) (EP.f (by simp only [hc8];kernel_rfl)))
  exact (EP.u 2 (ZX (c:=(decide (a0_.Long<1))) (h:=hc9)) (EP.f (by simp only [hc9];kernel_rfl)))
 refine tq (it h (λa0 h=>?_) (λa0 h=>?_))
 ·refine sq (rg ZO.f (tq (rt (tr ?_))))
  cases h
  exact Zab kr
 refine sk (tq (kq (sq (rg ZO.f (tq (rt ?_))))))
 cases h
 exact Zab kr
theorem ZgA (N:Nat)(a0_:(List ZaM))(r:Int)(h:Zdn N a0_=some r):PCall Try.prog 65 [ZaW false a0_] (iv r):=by
 unfold Zdn at h
 have hH  := hp0
 refine Zal ZzY rfl rfl (Z5 _ _ _ ?_) rfl
 refine sq (rg ZO.f (tq (sq (sq (rg (ZO.u 1 (Z0 (ys:=[ZaW false a0_]) (h:=Z6 ZaY)) ZO.f) (tq (it h (λhc1 h=>?_) (λhc1 h=>?_))))))))
 ·refine sq (rg ZO.f (tq (rt (tr ?_))))
  cases h
  exact Zab kr
 refine sk (tq (kq (sq (sq (rg (ZO.u 1 (Z0 (ys:=[ZaW false a0_]) (h:=Z6 ZaY)) ZO.f) (tq (bk ?_)))))))
 obtain ⟨a3,a1,h⟩:=bs h
 refine ZaG ((Zat (λ(x:Int) s=>s=⟨[(9,ZaW false a0_),(10,iv ((List.length a0_:Nat):Int)),(11,iv x)],[],[]⟩) (λx:Int=>ZbP N a0_ x) (λ(p:(Unit)⊕(Int)) e s=>match p with|(.inl p)=>e=.exit 0/\(s=⟨[],[],[]⟩)|(.inr p)=>e=.ret/\∃ xs,resL s i65.res=some xs/\Zbd xs=iv p) ?_ N _ a3 _ a1 kr).mono ?_)
 ·clear h a1
  rintro i2 o s h hR
  obtain rfl:=hR
  replace h:ZbP N a0_ i2=some o:=h
  unfold ZbP at h
  refine sq (rg ZO.f (tq (sq (it h (λa6 h=>?_) (λa6 h=>?_)))))
  ·refine sk (tq (kq (sq (bk (sq ?_)))))
   obtain ⟨a0,a2,h⟩:=bs h
   refine rg (ZO.u 0 (Z0 (ys:=[ZaW false a0_,iv i2]) (h:=ZY ZaY a2)) (ZO.u 0 (Zae (sz:=3) (off:=0) (cs:=[.int .i64 a0.Period,.int .i64 a0.From,.int .i64 a0.Long]) (r:=.agg (ZbJ a0)) ZaY a2) ZO.f)) (tq (sq ?_))
   obtain ⟨a7,a4,h⟩:=bs h
   refine rg (ZO.v 1 (Z7 (hc:=Zdo N a0 a7 a4)) ZO.f) (tq (sq (rg ZO.f (tq (it h (λa5 h=>?_) (λa5 h=>?_))))))
   ·refine sq (rg ZO.f (tq (rt (br (tr ?_)))))
    cases h
    exact ⟨_,rfl,rfl,Zab kr⟩
   refine sk (bn (tq (kq (rg ZO.f ?_))))
   cases h
   exact ⟨_,rfl,kr⟩
  refine kq (xq (tx ?_))
  cases h
  exact ⟨_,rfl,rfl,kr⟩
 rintro e s hq
 rcases a3 with a9|a8
 ·dsimp only at h hq
  obtain ⟨rfl,hR⟩:=hq
  obtain rfl:=hR
  refine bx (tq (sq (rg ZO.f (tq (rt ?_)))))
  cases h
  exact Zab kr
 dsimp only at h hq
 obtain ⟨rfl,hq⟩:=hq
 refine br (tr ?_)
 cases h
 exact hq
theorem Zfj {σ:Type}(N:Nat)(y_:σ->ZaT->Option (σ×Bool))(c0_:Z9)(c1_:Int)(c2_:Z8)(c3_:Zan)(s_:σ)(k0_:Nat)(k1_:Nat)(k2_:Nat)(k3_:Nat)(yid_:Nat)(T_:σ->List Zap->Prop)(hy_:∀ (x0:ZaT) (s:σ) (r:σ×Bool) (H:List HO) (its:List Zap),T_ s its->HP H its->y_ s x0=some r->∃ H' its',Zd4 Try.prog yid_ [.agg [iv x0.Port,iv x0.Early,iv x0.Late,iv x0.Open,iv x0.Long]] H r.2 H'/\T_ r.1 its'/\Fp H H' its its')(H:List HO)(its:List Zap)(hT:T_ s_ its)(hH:HP H (.cel k0_ (ZV c0_)::.cel k1_ [iv c1_]::.cel k2_ (ZP c2_)::.cel k3_ (ZQ c3_)::its))(r:σ)(h:ZdE N y_ c0_ c1_ c2_ c3_ s_=some r):∃ H' its',Za4 Try.prog 67 [.yl yid_,.ptr k0_ 0,.ptr k1_ 0,.ptr k2_ 0,.ptr k3_ 0] H (.tup []) H'/\T_ r its'/\Fp H H' (.cel k0_ (ZV c0_)::.cel k1_ [iv c1_]::.cel k2_ (ZP c2_)::.cel k3_ (ZQ c3_)::its) (.cel k0_ (ZV c0_)::.cel k1_ [iv c1_]::.cel k2_ (ZP c2_)::.cel k3_ (ZQ c3_)::its'):=by
 suffices hs:∃ H',Za4 Try.prog 67 [.yl yid_,.ptr k0_ 0,.ptr k1_ 0,.ptr k2_ 0,.ptr k3_ 0] H (.tup []) H'/\∃ its',T_ r its'/\Fp H H' (.cel k0_ (ZV c0_)::.cel k1_ [iv c1_]::.cel k2_ (ZP c2_)::.cel k3_ (ZQ c3_)::its) (.cel k0_ (ZV c0_)::.cel k1_ [iv c1_]::.cel k2_ (ZP c2_)::.cel k3_ (ZQ c3_)::its') by
  obtain ⟨H',h1,its',h2,h3⟩:=hs
  exact ⟨H',its',h1,h2,h3⟩
 unfold ZdE at h
 replace hH:Fp H H (.cel k0_ (ZV c0_)::.cel k1_ [iv c1_]::.cel k2_ (ZP c2_)::.cel k3_ (ZQ c3_)::its) (.cel k0_ (ZV c0_)::.cel k1_ [iv c1_]::.cel k2_ (ZP c2_)::.cel k3_ (ZQ c3_)::its):=Fp.refl hH
 refine ZfU ZzW (λH'=>∃ its',T_ r its'/\Fp H H' (.cel k0_ (ZV c0_)::.cel k1_ [iv c1_]::.cel k2_ (ZP c2_)::.cel k3_ (ZQ c3_)::its) (.cel k0_ (ZV c0_)::.cel k1_ [iv c1_]::.cel k2_ (ZP c2_)::.cel k3_ (ZQ c3_)::its')) rfl rfl rfl (sq (rg ZO.f (tq (sq ?_))))
 have hlc1:=Fp.get hH 0 rfl
 have hlc2:=Fp.get hH 1 rfl
 obtain ⟨e3,he3,h⟩:=bs h
 refine rg (ZO.u 1 (ZW (H:=H) (id:=k0_) (off:=9) (cs:=(ZV c0_)) (c:=[Zar false c0_.Routes]) (r:=Zar false c0_.Routes) (hl:=hlc1)) (ZO.u 0 (ZW (H:=H) (id:=k1_) (off:=0) (cs:=[iv c1_]) (c:=[iv c1_]) (r:=iv c1_) (hl:=hlc2)) (ZO.u 0 (Z0 (ys:=[Zar false c0_.Routes,iv c1_]) (h:=ZY (eSl 1 eI64) he3)) (ZO.u 0 (Zae (sz:=1) (off:=0) (cs:=[.sl 1 false (List.map eI64 e3)]) (r:=ZU false e3) (eSl 1 eI64) he3) (ZO.u 0 (Z0 (ys:=[ZU false e3]) (h:=Z6 eI64)) ZO.f))))) (tq (bk ?_))
 obtain ⟨an,a5,h⟩:=bs h
 refine ZaG ((Zat (λ(x:Int×Int×Int×Int×Int×Int×σ) s=>∃ (its4:List Zap) (H5:List HO),s=⟨[(0,.yl yid_),(1,.ptr k0_ 0),(3,.ptr k2_ 0),(4,.ptr k3_ 0),(6,.loc 6 0),(14,ZU false e3),(15,iv ((List.length e3:Nat):Int)),(16,iv x.1)],[(6,[iv x.2.1,iv x.2.2.1,iv x.2.2.2.1,iv x.2.2.2.2.1,iv x.2.2.2.2.2.1])],H5⟩/\T_ x.2.2.2.2.2.2 its4/\Fp H H5 (.cel k0_ (ZV c0_)::.cel k1_ [iv c1_]::.cel k2_ (ZP c2_)::.cel k3_ (ZQ c3_)::its) (.cel k0_ (ZV c0_)::.cel k1_ [iv c1_]::.cel k2_ (ZP c2_)::.cel k3_ (ZQ c3_)::its4)) (λx:Int×Int×Int×Int×Int×Int×σ=>Zcs N y_ c0_ c2_ c3_ e3 x.1 x.2.1 x.2.2.1 x.2.2.2.1 x.2.2.2.2.1 x.2.2.2.2.2.1 x.2.2.2.2.2.2) (λ(p:(σ)⊕(σ)) e s=>match p with|(.inl p)=>e=.exit 0/\(∃ (a1:List Zap) (am:List HO),s=⟨[],[],am⟩/\T_ p a1/\Fp H am (.cel k0_ (ZV c0_)::.cel k1_ [iv c1_]::.cel k2_ (ZP c2_)::.cel k3_ (ZQ c3_)::its) (.cel k0_ (ZV c0_)::.cel k1_ [iv c1_]::.cel k2_ (ZP c2_)::.cel k3_ (ZQ c3_)::a1))|(.inr p)=>e=.ret/\∃ xs,rawL s i67.res=some xs/\Zbd xs=.tup []/\∃ its',T_ p its'/\Fp H s.H (.cel k0_ (ZV c0_)::.cel k1_ [iv c1_]::.cel k2_ (ZP c2_)::.cel k3_ (ZQ c3_)::its) (.cel k0_ (ZV c0_)::.cel k1_ [iv c1_]::.cel k2_ (ZP c2_)::.cel k3_ (ZQ c3_)::its')) ?_ N _ an _ a5 ⟨its,H,kr,hT,Fp.at hH⟩).mono ?_)
 ·clear h a5
  rintro ⟨i6,i7,i10,i11,i12,i8,g9⟩ o s h hR
  obtain ⟨its4,H5,rfl,hT,hH⟩:=hR
  replace hH:Fp H H5 (.cel k0_ (ZV c0_)::.cel k1_ [iv c1_]::.cel k2_ (ZP c2_)::.cel k3_ (ZQ c3_)::its) (.cel k0_ (ZV c0_)::.cel k1_ [iv c1_]::.cel k2_ (ZP c2_)::.cel k3_ (ZQ c3_)::its4):=hH
  replace h:Zcs N y_ c0_ c2_ c3_ e3 i6 i7 i10 i11 i12 i8 g9=some o:=h
  unfold Zcs at h
  refine sq (rg ZO.f (tq (sq (it h (λax h=>?_) (λax h=>?_)))))
  ·refine sk (tq (kq (sq (bk (sq ?_)))))
   obtain ⟨a4,ao,h⟩:=bs h
   refine rg (ZO.u 1 (Z0 (ys:=[ZU false e3,iv i6]) (h:=ZY eI64 ao)) (ZO.u 0 (Zae (sz:=1) (off:=0) (cs:=[.int .i64 a4]) (r:=iv a4) eI64 ao) ZO.f)) (tq ?_)
   obtain ⟨a0,a6,h⟩:=bs h
   refine Zd6 [0,1,3,4,6,8,14,15,16] (λs=>s=⟨[(0,.yl yid_),(1,.ptr k0_ 0),(3,.ptr k2_ 0),(4,.ptr k3_ 0),(6,.loc 6 0),(8,iv a4),(14,ZU false e3),(15,iv ((List.length e3:Nat):Int)),(16,iv i6)],[(6,[iv i7,iv a0.1,iv a0.2.1,iv a0.2.2,iv i8])],H5⟩) ?_ ?_
   ·clear h
    have h:=a6
    refine sq (rg ZO.f (tq (it h (λav h=>?_) (λav h=>?_))))
    ·refine sq ?_
     have ak:=Fp.get hH 2 rfl
     obtain ⟨a9,a8,h⟩:=bs h
     have aj:=Fp.get hH 3 rfl
     refine rq (ZO.u 6 (Zaz (ZW (H:=H5) (id:=k2_) (off:=2) (cs:=(ZP c2_)) (c:=[ZZ false c2_.Links]) (r:=ZZ false c2_.Links) (hl:=ak))) (ZO.u 3 (Z0 (ys:=[ZZ false c2_.Links,iv (w64 (Int.tdiv i7 2))]) (h:=ZY ZaB a8)) (ZO.u 1 (Zaz (Zae (sz:=4) (off:=3) (cs:=[.int .i64 a9.Delay]) (r:=iv a9.Delay) ZaB a8)) (ZO.u 2 (Zaz (ZW (H:=H5) (id:=k3_) (off:=2) (cs:=(ZQ c3_)) (c:=[iv c3_.Proc]) (r:=iv c3_.Proc) (hl:=aj))) ZO.f)))) (tq (sq ?_))
     have ai:=Fp.get hH 3 rfl
     have ag:=Fp.get hH 3 rfl
     refine rq (ZO.u 2 (Zaz (ZW (H:=H5) (id:=k3_) (off:=1) (cs:=(ZQ c3_)) (c:=[iv c3_.Slack]) (r:=iv c3_.Slack) (hl:=ai))) (ZO.u 4 (Zaz (ZW (H:=H5) (id:=k3_) (off:=1) (cs:=(ZQ c3_)) (c:=[iv c3_.Slack]) (r:=iv c3_.Slack) (hl:=ag))) ZO.f)) (tq ?_)
     have af:=Fp.get hH 3 rfl
     have ae:=Fp.get hH 3 rfl
     obtain ⟨ay,ar,h⟩:=bs h
     have ad:=Fp.get hH 3 rfl
     refine rq (ZO.u 3 (Zaz (ZW (H:=H5) (id:=k3_) (off:=0) (cs:=(ZQ c3_)) (c:=[iv c3_.Grid]) (r:=iv c3_.Grid) (hl:=af))) (ZO.u 3 (Zaz (ZW (H:=H5) (id:=k3_) (off:=0) (cs:=(ZQ c3_)) (c:=[iv c3_.Grid]) (r:=iv c3_.Grid) (hl:=ae))) (ZO.u 0 (Z0 (ys:=[iv (w64 ((w64 ((w64 ((w64 ((w64 ((w64 (i12+i8))+a9.Delay))+c3_.Proc))+(w64 (2*c3_.Slack))))+c3_.Grid))-1)),iv c3_.Grid]) (h:=Zez ar)) (ZO.u 1 (Zaz (ZW (H:=H5) (id:=k3_) (off:=0) (cs:=(ZQ c3_)) (c:=[iv c3_.Grid]) (r:=iv c3_.Grid) (hl:=ad))) ZO.f)))) ?_
     cases h
     exact ⟨rfl,kr⟩
    refine sk ?_
    cases h
    exact ⟨rfl,kr⟩
   clear a6
   rintro s hR
   obtain rfl:=hR
   refine sq ?_
   have ac:=Fp.get hH 0 rfl
   have ab:=Fp.get hH 2 rfl
   obtain ⟨a3,a7,h⟩:=bs h
   refine rq (ZO.u 2 (Zaz (ZW (H:=H5) (id:=k0_) (off:=4) (cs:=(ZV c0_)) (c:=[iv c0_.Size]) (r:=iv c0_.Size) (hl:=ac))) (ZO.u 1 (Zaz (ZW (H:=H5) (id:=k2_) (off:=2) (cs:=(ZP c2_)) (c:=[ZZ false c2_.Links]) (r:=ZZ false c2_.Links) (hl:=ab))) (ZO.u 2 (Z0 (ys:=[ZZ false c2_.Links,iv (w64 (Int.tdiv a4 2))]) (h:=ZY ZaB a7)) (ZO.u 1 (Zaz (Zae (sz:=4) (off:=2) (cs:=[.int .i64 a3.Per]) (r:=iv a3.Per) ZaB a7)) ZO.f)))) (tq (sq ?_))
   obtain ⟨aw,aq,h⟩:=bs h
   obtain ⟨ap,a2,aa,hT,al⟩:=hy_ (ZaT.mk a4 a0.1 a0.2.1 a0.2.2 (w64 (c0_.Size*a3.Per))) g9 aw H5 its4 hT (Fp.tail (own:=[.cel k0_ (ZV c0_),.cel k1_ [iv c1_],.cel k2_ (ZP c2_),.cel k3_ (ZQ c3_)]) (its:=its4) hH) aq
   replace hH:Fp H ap (.cel k0_ (ZV c0_)::.cel k1_ [iv c1_]::.cel k2_ (ZP c2_)::.cel k3_ (ZQ c3_)::its) (.cel k0_ (ZV c0_)::.cel k1_ [iv c1_]::.cel k2_ (ZP c2_)::.cel k3_ (ZQ c3_)::a2):=Fp.callT (own:=[.cel k0_ (ZV c0_),.cel k1_ [iv c1_],.cel k2_ (ZP c2_),.cel k3_ (ZQ c3_)]) (its:=its4) hH al
   refine rg (ZO.v 2 (ZhZ (H:=H5) (id:=yid_) (ys:=[.agg [iv a4,iv a0.1,iv a0.2.1,iv a0.2.2,iv (w64 (c0_.Size*a3.Per))]]) kr kr kr kr aa) ZO.f) (tq (it h (λau h=>?_) (λau h=>?_)))
   ·refine rt (br (tr ?_))
    cases h
    exact ⟨_,rfl,rfl,⟨[],kr,kr,a2,hT,Fp.at hH⟩⟩
   refine sk (bn (tq (kq (rg ZO.f ?_))))
   cases h
   exact ⟨_,rfl,⟨a2,ap,kr,hT,Fp.at hH⟩⟩
  refine kq (xq (tx ?_))
  cases h
  exact ⟨_,rfl,rfl,⟨its4,H5,kr,hT,Fp.at hH⟩⟩
 rintro e s hq
 rcases an with aA|az
 ·dsimp only at h hq
  obtain ⟨rfl,hR⟩:=hq
  obtain ⟨a1,am,rfl,hT,hH⟩:=hR
  replace hH:Fp H am (.cel k0_ (ZV c0_)::.cel k1_ [iv c1_]::.cel k2_ (ZP c2_)::.cel k3_ (ZQ c3_)::its) (.cel k0_ (ZV c0_)::.cel k1_ [iv c1_]::.cel k2_ (ZP c2_)::.cel k3_ (ZQ c3_)::a1):=hH
  refine bx ?_
  cases h
  exact ⟨[],kr,kr,a1,hT,Fp.at hH⟩
 dsimp only at h hq
 obtain ⟨rfl,hq⟩:=hq
 refine br ?_
 cases h
 exact hq
theorem Zd7 (N:Nat)(a0_:Z8)(a1_:Int)(r:Bool)(h:ZgL N a0_ a1_=some r):PCall Try.prog 69 [.agg (ZP a0_),iv a1_] (bv r):=by
 unfold ZgL at h
 have hH  := hp0
 refine Zal ZzU rfl rfl (Z5 _ _ _ ?_) rfl
 refine sq (rg ZO.f (tq (sq (rgX ⟨[(4,bv ((decide (a1_≥0))&&(decide (a1_<a0_.Nodes))))],[],[]⟩ ?_ ?_))))
 ·rcases Bool.eq_false_or_eq_true (decide (a1_≥0)) with hc1|hc2
  ·exact (EP.u 1 (ZX (c:=(decide (a1_≥0))) (h:=hc1)) (EP.f (by simp only [hc1];kernel_rfl)))
  exact (EP.u 1 (ZX (c:=(decide (a1_≥0))) (h:=hc2)) (EP.f (by simp only [hc2];kernel_rfl)))
 refine tq (rt ?_)
 cases h
 exact Zab kr
theorem Zid (N:Nat)(a0_:Int)(c0_:Z8)(k0_:Nat)(H:List HO)(hH:HP H [.cel k0_ (ZP c0_)])(r:Bool)(h:Zfs N a0_ c0_=some r):Za4 Try.prog 70 [iv a0_,.ptr k0_ 0] H (bv r) H:=by
 unfold Zfs at h
 refine Zbf ZzT rfl rfl rfl (Z5 _ _ _ (sq (rg ZO.f (tq (sq ?_)))))
 have hlc1:=HP.get hH 0 rfl
 obtain ⟨e2,he2,h⟩:=bs h
 refine rg (ZO.u 1 (ZW (H:=H) (id:=k0_) (off:=2) (cs:=(ZP c0_)) (c:=[ZZ false c0_.Links]) (r:=ZZ false c0_.Links) (hl:=hlc1)) (ZO.u 1 (Z0 (ys:=[ZZ false c0_.Links,iv a0_]) (h:=ZY ZaB he2)) (ZO.u 0 (Zae (sz:=4) (off:=0) (cs:=[.int .i64 e2.A,.int .i64 e2.B,.int .i64 e2.Per,.int .i64 e2.Delay]) (r:=.agg (Zbn e2)) ZaB he2) ZO.f))) (tq (sq ?_))
 obtain ⟨j9,hj,h⟩:=bs h
 refine rgR (λs=>s=⟨[(3,bv j9)],[],H⟩) ?_ ?_
 ·clear h
  have hlc3:=HP.get hH 0 rfl
  refine (EP.u 1 (ZW (H:=H) (id:=k0_) (off:=1) (cs:=(ZP c0_)) (c:=[s_eB false c0_.Station]) (r:=s_eB false c0_.Station) (hl:=hlc3)) ?_)
  obtain ⟨e4,he4,hj⟩:=bs hj
  refine (EP.u 2 (Z0 (ys:=[s_eB false c0_.Station,iv e2.A]) (h:=ZY eB he4)) (EP.u 0 (Zae (sz:=1) (off:=0) (cs:=[.bool e4]) (r:=bv e4) eB he4) ?_))
  rcases Zau hj with ⟨hc5,hj⟩|⟨hc6,hj⟩
  ·obtain rfl:=Zaa hj
   exact (EP.u 0 (ZX (c:=(!e4)) (h:=hc5)) (EP.f kr))
  refine (EP.u 0 (ZX (c:=(!e4)) (h:=hc6)) ?_)
  have hlc7:=HP.get hH 0 rfl
  refine (EP.u 2 (ZW (H:=H) (id:=k0_) (off:=1) (cs:=(ZP c0_)) (c:=[s_eB false c0_.Station]) (r:=s_eB false c0_.Station) (hl:=hlc7)) ?_)
  obtain ⟨e8,he8,hj⟩:=bs hj
  obtain rfl:=Zaa hj
  exact (EP.u 2 (Z0 (ys:=[s_eB false c0_.Station,iv e2.B]) (h:=ZY eB he8)) (EP.u 0 (Zae (sz:=1) (off:=0) (cs:=[.bool e8]) (r:=bv e8) eB he8) (EP.f kr)))
 clear hj
 rintro s hR
 obtain rfl:=hR
 refine tq (rt ?_)
 cases h
 exact Za0 kr kr
theorem Zic (N:Nat)(a0_:Int)(c0_:Z8)(k0_:Nat)(H:List HO)(hH:HP H [.cel k0_ (ZP c0_)])(r:Bool)(h:Zfr N a0_ c0_=some r):Za4 Try.prog 71 [iv a0_,.ptr k0_ 0] H (bv r) H:=by
 unfold Zfr at h
 refine Zbf ZzS rfl rfl rfl (Z5 _ _ _ (sq (rg ZO.f (tq (sq ?_)))))
 have hlc1:=HP.get hH 0 rfl
 obtain ⟨e2,he2,h⟩:=bs h
 refine rg (ZO.u 1 (ZW (H:=H) (id:=k0_) (off:=2) (cs:=(ZP c0_)) (c:=[ZZ false c0_.Links]) (r:=ZZ false c0_.Links) (hl:=hlc1)) (ZO.u 1 (Z0 (ys:=[ZZ false c0_.Links,iv a0_]) (h:=ZY ZaB he2)) (ZO.u 0 (Zae (sz:=4) (off:=0) (cs:=[.int .i64 e2.A,.int .i64 e2.B,.int .i64 e2.Per,.int .i64 e2.Delay]) (r:=.agg (Zbn e2)) ZaB he2) ZO.f))) (tq (sq (sq ?_)))
 have hlc3:=HP.get hH 0 rfl
 obtain ⟨l4,hl4,h⟩:=bs h
 refine rg (ZO.u 1 (ZW (H:=H) (id:=k0_) (off:=2) (cs:=(ZP c0_)) (c:=[ZZ false c0_.Links]) (r:=ZZ false c0_.Links) (hl:=hlc3)) (ZO.u 1 (Z0 (ys:=[ZZ false c0_.Links,iv a0_]) (h:=Zdw ZaB hl4)) (ZO.u 0 (Z0 (ys:=[ZZ false l4]) (h:=Z6 ZaB)) ZO.f))) ?_
 replace hH:HP _ []:=HP.pick hH [] rfl
 refine tq (bk ?_)
 obtain ⟨ab,a4,h⟩:=bs h
 refine ZaG ((Zat (λ(x:Int) s=>s=⟨[(4,.loc 4 0),(15,ZZ false l4),(16,iv ((List.length l4:Nat):Int)),(17,iv x)],[(4,(Zbn e2))],H⟩) (λx:Int=>ZcF N e2 l4 x) (λ(p:(Unit)⊕(Bool)) e s=>match p with|(.inl p)=>e=.exit 0/\(s=⟨[],[],H⟩)|(.inr p)=>e=.ret/\∃ xs,rawL s i71.res=some xs/\Zbd (weakVs xs)=bv p/\s.H=H) ?_ N _ ab _ a4 kr).mono ?_)
 ·clear h a4
  rintro i5 o s h hR
  obtain rfl:=hR
  replace h:ZcF N e2 l4 i5=some o:=h
  unfold ZcF at h
  refine sq (rg ZO.f (tq (sq (it h (λad h=>?_) (λad h=>?_)))))
  ·refine sk (tq (kq (sq (bk (sq ?_)))))
   obtain ⟨a0,a5,h⟩:=bs h
   refine rg (ZO.u 0 (Z0 (ys:=[ZZ false l4,iv i5]) (h:=ZY ZaB a5)) (ZO.u 0 (Zae (sz:=4) (off:=0) (cs:=[.int .i64 a0.A,.int .i64 a0.B,.int .i64 a0.Per,.int .i64 a0.Delay]) (r:=.agg (Zbn a0)) ZaB a5) ZO.f)) (tq (sq (rgX ⟨[(4,.loc 4 0),(15,ZZ false l4),(16,iv ((List.length l4:Nat):Int)),(17,iv i5),(46,bv (if (e2.A==a0.A) then ((e2.B==a0.B)||((e2.A==a0.B)&&(e2.B==a0.A))) else ((e2.A==a0.B)&&(e2.B==a0.A))))],[(4,(Zbn e2))],H⟩ ?_ ?_)))
   ·rcases Bool.eq_false_or_eq_true (e2.A==a0.A) with a1|a2
    ·refine (EP.u 4 (ZX (c:=(e2.A==a0.A)) (h:=a1)) ?_)
     rcases Bool.eq_false_or_eq_true (e2.B==a0.B) with aa|a3
     ·exact (EP.u 5 (ZX (c:=(e2.B==a0.B)) (h:=aa)) (EP.f (by simp only [a1,aa];kernel_rfl)))
     refine (EP.u 5 (ZX (c:=(e2.B==a0.B)) (h:=a3)) ?_)
     rcases Bool.eq_false_or_eq_true (e2.A==a0.B) with a9|a8
     ·exact (EP.u 6 (ZX (c:=(e2.A==a0.B)) (h:=a9)) (EP.f (by simp only [a1,a3,a9];kernel_rfl)))
     exact (EP.u 6 (ZX (c:=(e2.A==a0.B)) (h:=a8)) (EP.f (by simp only [a1,a3,a8];kernel_rfl)))
    refine (EP.u 4 (ZX (c:=(e2.A==a0.A)) (h:=a2)) ?_)
    rcases Bool.eq_false_or_eq_true (e2.A==a0.B) with a7|a6
    ·exact (EP.u 12 (ZX (c:=(e2.A==a0.B)) (h:=a7)) (EP.f (by simp only [a2,a7];kernel_rfl)))
    exact (EP.u 12 (ZX (c:=(e2.A==a0.B)) (h:=a6)) (EP.f (by simp only [a2,a6];kernel_rfl)))
   refine tq (it h (λac h=>?_) (λac h=>?_))
   ·refine sq (rg ZO.f (tq (rt (br (tr ?_)))))
    cases h
    exact ⟨_,rfl,rfl,Za0 kr kr⟩
   refine sk (bn (tq (kq (rg ZO.f ?_))))
   cases h
   exact ⟨_,rfl,kr⟩
  refine kq (xq (tx ?_))
  cases h
  exact ⟨_,rfl,rfl,kr⟩
 rintro e s hq
 rcases ab with af|ae
 ·dsimp only at h hq
  obtain ⟨rfl,hR⟩:=hq
  obtain rfl:=hR
  refine bx (tq (sq (rg ZO.f (tq (rt ?_)))))
  cases h
  exact Za0 kr kr
 dsimp only at h hq
 obtain ⟨rfl,hq⟩:=hq
 refine br (tr ?_)
 cases h
 exact hq
theorem Zib (N:Nat)(a0_:Int)(c0_:Z8)(k0_:Nat)(H:List HO)(hH:HP H [.cel k0_ (ZP c0_)])(r:Bool)(h:Zfq N a0_ c0_=some r):Za4 Try.prog 72 [iv a0_,.ptr k0_ 0] H (bv r) H:=by
 unfold Zfq at h
 refine Zbf ZzR rfl rfl rfl (Z5 _ _ _ (sq (rg ZO.f (tq (sq ?_)))))
 have hlc1:=HP.get hH 0 rfl
 obtain ⟨e2,he2,h⟩:=bs h
 refine rg (ZO.u 1 (ZW (H:=H) (id:=k0_) (off:=2) (cs:=(ZP c0_)) (c:=[ZZ false c0_.Links]) (r:=ZZ false c0_.Links) (hl:=hlc1)) (ZO.u 1 (Z0 (ys:=[ZZ false c0_.Links,iv a0_]) (h:=ZY ZaB he2)) (ZO.u 0 (Zae (sz:=4) (off:=0) (cs:=[.int .i64 e2.A,.int .i64 e2.B,.int .i64 e2.Per,.int .i64 e2.Delay]) (r:=.agg (Zbn e2)) ZaB he2) ZO.f))) ?_
 replace hH:HP _ []:=HP.pick hH [] rfl
 refine tq (sq (rgX ⟨[(3,bv ((decide (e2.Per≥1))&&((decide (e2.Per<=1000))&&((decide (e2.Delay≥0))&&(decide (e2.Delay<=10000))))))],[],H⟩ ?_ ?_))
 ·rcases Bool.eq_false_or_eq_true (decide (e2.Per≥1)) with hc3|hc8
  ·refine (EP.u 2 (ZX (c:=(decide (e2.Per≥1))) (h:=hc3)) ?_)
   rcases Bool.eq_false_or_eq_true (decide (e2.Per<=1000)) with hc4|hc7
   ·refine (EP.u 3 (ZX (c:=(decide (e2.Per<=1000))) (h:=hc4)) ?_)
    rcases Bool.eq_false_or_eq_true (decide (e2.Delay≥0)) with hc5|hc6
    ·exact (EP.u 4 (ZX (c:=(decide (e2.Delay≥0))) (h:=hc5)) (EP.f (by simp only [hc3,hc4,hc5];kernel_rfl)))
    exact (EP.u 4 (ZX (c:=(decide (e2.Delay≥0))) (h:=hc6)) (EP.f (by simp only [hc3,hc4,hc6];kernel_rfl)))
   exact (EP.u 3 (ZX (c:=(decide (e2.Per<=1000))) (h:=hc7)) (EP.f (by simp only [hc3,hc7];kernel_rfl)))
  exact (EP.u 2 (ZX (c:=(decide (e2.Per≥1))) (h:=hc8)) (EP.f (by simp only [hc8];kernel_rfl)))
 refine tq (rt ?_)
 cases h
 exact Za0 kr kr
theorem Zd3 (N:Nat)(a0_:(List Bool))(a1_:Bool)(r:Int)(h:ZbN N a0_ a1_=some r):PCall Try.prog 73 [s_eB false a0_,bv a1_] (iv r):=by
 unfold ZbN at h
 have hH  := hp0
 refine Zal ZzQ rfl rfl (Z5 _ _ _ ?_) rfl
 refine sq (rg ZO.f (tq (sq (sq (rg (ZO.u 1 (Z0 (ys:=[s_eB false a0_]) (h:=Z6 eB)) ZO.f) (tq (bk ?_)))))))
 obtain ⟨a2,a0,h⟩:=bs h
 refine ZaG ((Zat (λ(x:Int) s=>s=⟨[(0,s_eB false a0_),(1,bv a1_),(7,iv ((List.length a0_:Nat):Int)),(8,iv x)],[],[]⟩) (λx:Int=>Zbc N a0_ a1_ x) (λ(p:(Unit)⊕(Int)) e s=>match p with|(.inl p)=>e=.exit 0/\(s=⟨[],[],[]⟩)|(.inr p)=>e=.ret/\∃ xs,resL s i73.res=some xs/\Zbd xs=iv p) ?_ N _ a2 _ a0 kr).mono ?_)
 ·clear h a0
  rintro i1 o s h hR
  obtain rfl:=hR
  replace h:Zbc N a0_ a1_ i1=some o:=h
  unfold Zbc at h
  refine sq (rg ZO.f (tq (sq (it h (λa4 h=>?_) (λa4 h=>?_)))))
  ·refine sk (tq (kq (sq (bk (sq (rg ZO.f (tq (sq ?_))))))))
   obtain ⟨a5,a1,h⟩:=bs h
   refine rg (ZO.u 3 (Z0 (ys:=[s_eB false a0_,iv i1]) (h:=ZY eB a1)) (ZO.u 0 (Zae (sz:=1) (off:=0) (cs:=[.bool a5]) (r:=bv a5) eB a1) ZO.f)) (tq (it h (λa3 h=>?_) (λa3 h=>?_)))
   ·refine sq (rg ZO.f (tq (rt (br (tr ?_)))))
    cases h
    exact ⟨_,rfl,rfl,Zab kr⟩
   refine sk (bn (tq (kq (rg ZO.f ?_))))
   cases h
   exact ⟨_,rfl,kr⟩
  refine kq (xq (tx ?_))
  cases h
  exact ⟨_,rfl,rfl,kr⟩
 rintro e s hq
 rcases a2 with a7|a6
 ·dsimp only at h hq
  obtain ⟨rfl,hR⟩:=hq
  obtain rfl:=hR
  refine bx (tq (sq (rg ZO.f (tq (rt ?_)))))
  cases h
  exact Zab kr
 dsimp only at h hq
 obtain ⟨rfl,hq⟩:=hq
 refine br (tr ?_)
 cases h
 exact hq
theorem Zdu (N:Nat)(a0_:Int)(a1_:Int)(a2_:Int)(r:Bool)(h:Zci N a0_ a1_ a2_=some r):PCall Try.prog 74 [iv a0_,iv a1_,iv a2_] (bv r):=by
 unfold Zci at h
 have hH  := hp0
 refine Zal ZzP rfl rfl (Z5 _ _ _ ?_) rfl
 refine sq (rg ZO.f (tq (sq (rgX ⟨[(6,bv ((decide (a1_<=a0_))&&(decide (a0_<=a2_))))],[],[]⟩ ?_ ?_))))
 ·rcases Bool.eq_false_or_eq_true (decide (a1_<=a0_)) with hc1|hc2
  ·exact (EP.u 2 (ZX (c:=(decide (a1_<=a0_))) (h:=hc1)) (EP.f (by simp only [hc1];kernel_rfl)))
  exact (EP.u 2 (ZX (c:=(decide (a1_<=a0_))) (h:=hc2)) (EP.f (by simp only [hc2];kernel_rfl)))
 refine tq (rt ?_)
 cases h
 exact Zab kr
theorem Zin (N:Nat)(a0_:(List Int))(a1_:(List Int))(r:Bool)(h:ZfC N a0_ a1_=some r):PCall Try.prog 79 [ZU false a0_,ZU false a1_] (bv r):=by
 unfold ZfC at h
 have hH  := hp0
 refine Zal ZzK rfl rfl (Z5 _ _ _ ?_) rfl
 refine sq (rg ZO.f (tq (sq (sq (rg (ZO.u 1 (Z0 (ys:=[ZU false a0_]) (h:=Z6 eI64)) ZO.f) (tq (bk ?_)))))))
 obtain ⟨a4,a0,h⟩:=bs h
 refine ZaG ((Zat (λ(x:Int) s=>s=⟨[(1,ZU false a1_),(9,ZU false a0_),(10,iv ((List.length a0_:Nat):Int)),(11,iv x)],[],[]⟩) (λx:Int=>ZcK N a0_ a1_ x) (λ(p:(Unit)⊕(Bool)) e s=>match p with|(.inl p)=>e=.exit 0/\(s=⟨[],[],[]⟩)|(.inr p)=>e=.ret/\∃ xs,resL s i79.res=some xs/\Zbd xs=bv p) ?_ N _ a4 _ a0 kr).mono ?_)
 ·clear h a0
  rintro i1 o s h hR
  obtain rfl:=hR
  replace h:ZcK N a0_ a1_ i1=some o:=h
  unfold ZcK at h
  refine sq (rg ZO.f (tq (sq (it h (λab h=>?_) (λab h=>?_)))))
  ·refine sk (tq (kq (sq (bk (sq ?_)))))
   obtain ⟨a3,a6,h⟩:=bs h
   refine rg (ZO.u 0 (Z0 (ys:=[ZU false a0_,iv i1]) (h:=ZY eI64 a6)) (ZO.u 0 (Zae (sz:=1) (off:=0) (cs:=[.int .i64 a3]) (r:=iv a3) eI64 a6) ZO.f)) (tq (sq (rg (ZO.u 1 (Z0 (ys:=[ZU false a1_]) (h:=Z6 eI64)) ZO.f) (tq (bk ?_)))))
   obtain ⟨a5,a1,h⟩:=bs h
   refine ZaG ((Zat (λ(x:Int) s=>s=⟨[(1,ZU false a1_),(6,iv a3),(9,ZU false a0_),(10,iv ((List.length a0_:Nat):Int)),(11,iv i1),(15,ZU false a1_),(16,iv ((List.length a1_:Nat):Int)),(17,iv x)],[],[]⟩) (λx:Int=>ZcJ N a1_ a3 x) (λ(p:(Unit)⊕(Bool)) e s=>match p with|(.inl p)=>e=.exit 2/\(s=⟨[(1,ZU false a1_),(9,ZU false a0_),(10,iv ((List.length a0_:Nat):Int)),(11,iv i1)],[],[]⟩)|(.inr p)=>e=.ret/\∃ xs,resL s i79.res=some xs/\Zbd xs=bv p) ?_ N _ a5 _ a1 kr).mono ?_)
   ·clear h a1
    rintro aa o s h hR
    obtain rfl:=hR
    replace h:ZcJ N a1_ a3 aa=some o:=h
    unfold ZcJ at h
    refine sq (rg ZO.f (tq (sq (it h (λa9 h=>?_) (λa9 h=>?_)))))
    ·refine sk (tq (kq (sq (bk (sq ?_)))))
     obtain ⟨a7,a2,h⟩:=bs h
     refine rg (ZO.u 0 (Z0 (ys:=[ZU false a1_,iv aa]) (h:=ZY eI64 a2)) (ZO.u 0 (Zae (sz:=1) (off:=0) (cs:=[.int .i64 a7]) (r:=iv a7) eI64 a2) ZO.f)) (tq (sq (rg ZO.f (tq (it h (λa8 h=>?_) (λa8 h=>?_))))))
     ·refine sq (rg ZO.f (tq (rt (br (tr ?_)))))
      cases h
      exact ⟨_,rfl,rfl,Zab kr⟩
     refine sk (bn (tq (kq (rg ZO.f ?_))))
     cases h
     exact ⟨_,rfl,kr⟩
    refine kq (xq (tx ?_))
    cases h
    exact ⟨_,rfl,rfl,kr⟩
   rintro e s hq
   rcases a5 with af|ae
   ·dsimp only at h hq
    obtain ⟨rfl,hR⟩:=hq
    obtain rfl:=hR
    refine bx (bn (tq (rg ZO.f ?_)))
    cases h
    exact ⟨_,rfl,kr⟩
   dsimp only at h hq
   obtain ⟨rfl,hq⟩:=hq
   refine br (br (tr ?_))
   cases h
   exact ⟨_,rfl,rfl,hq⟩
  refine kq (xq (tx ?_))
  cases h
  exact ⟨_,rfl,rfl,kr⟩
 rintro e s hq
 rcases a4 with ad|ac
 ·dsimp only at h hq
  obtain ⟨rfl,hR⟩:=hq
  obtain rfl:=hR
  refine bx (tq (sq (rg ZO.f (tq (rt ?_)))))
  cases h
  exact Zab kr
 dsimp only at h hq
 obtain ⟨rfl,hq⟩:=hq
 refine br (tr ?_)
 cases h
 exact hq
theorem Zi0 (N:Nat)(a0_:Int)(a1_:Int)(r:Int)(h:Zgz N a0_ a1_=some r):PCall Try.prog 82 [iv a0_,iv a1_] (iv r):=by
 unfold Zgz at h
 have hH  := hp0
 refine Zal ZzH rfl rfl (Z5 _ _ _ ?_) rfl
 refine sq (rg ZO.f (tq (sq ?_)))
 obtain ⟨m1,hm1,h⟩:=bs h
 obtain ⟨m2,hm2,h⟩:=bs h
 refine rg (ZO.u 2 (Z0 (ys:=[iv a0_,iv a1_]) (h:=ZcE hm1)) (ZO.u 3 (Z0 (ys:=[iv (w64 (m1+a1_)),iv a1_]) (h:=ZcE hm2)) ZO.f)) (tq (rt ?_))
 cases h
 exact Zab kr
theorem Zgn (N:Nat)(a0_:Int)(a1_:Int)(r:Int)(h:Ze1 N a0_ a1_=some r):PCall Try.prog 83 [iv a0_,iv a1_] (iv r):=by
 unfold Ze1 at h
 have hH  := hp0
 refine Zal ZzG rfl rfl (Z5 _ _ _ ?_) rfl
 refine sq (rg ZO.f (tq (sq (bk ?_))))
 obtain ⟨a3,a0,h⟩:=bs h
 refine ZaG ((Zat (λ(x:Int×Int) s=>s=⟨[(0,iv x.1),(1,iv x.2)],[],[]⟩) (λx:Int×Int=>Zc9 N x.1 x.2) (λ(p:Int) e s=>e=.exit 0/\(s=⟨[(0,iv p)],[],[]⟩)) ?_ N _ a3 _ a0 kr).mono ?_)
 ·clear h a0
  rintro ⟨i1,i2⟩ o s h hR
  obtain rfl:=hR
  replace h:Zc9 N i1 i2=some o:=h
  unfold Zc9 at h
  refine sq (sq (rg ZO.f (tq (it h (λa2 h=>?_) (λa2 h=>?_)))))
  ·refine sk (tq (kq (bk ?_)))
   obtain ⟨a4,a1,h⟩:=bs h
   refine rq (ZO.u 3 (Z0 (ys:=[iv i1,iv i2]) (h:=ZcE a1)) ZO.f) (bn ?_)
   cases h
   exact ⟨_,rfl,kr⟩
  refine kq (xq (tx ?_))
  cases h
  exact ⟨_,rfl,rfl,kr⟩
 rintro e s hq
 obtain ⟨rfl,hR⟩:=hq
 obtain rfl:=hR
 refine bx (tq (sq (rg ZO.f (tq (rt ?_)))))
 cases h
 exact Zab kr
theorem Zeb (N:Nat)(a0_:ZaD)(a1_:(List Int))(H:List HO)(r:(List Int)×ZaD)(h:ZcI N a0_ a1_=some r):∃ (id0_ id1_:Nat) (H':List HO),Za4 Try.prog 86 [.agg (ZP a0_.Topo),ZU false a1_] H (.fn 91 [] [.ptr id0_ 0,.ptr id1_ 0]) H'/\Fp H H' [] [.cel id0_ [ZU false r.1],.cel id1_ [iv r.2.Topo.Nodes,s_eB false r.2.Topo.Station,ZZ false r.2.Topo.Links]]:=by
 suffices hs:∃ r' H',Za4 Try.prog 86 [.agg (ZP a0_.Topo),ZU false a1_] H r' H'/\∃ (id0_ id1_:Nat),r'=.fn 91 [] [.ptr id0_ 0,.ptr id1_ 0]/\Fp H H' [] [.cel id0_ [ZU false r.1],.cel id1_ [iv r.2.Topo.Nodes,s_eB false r.2.Topo.Station,ZZ false r.2.Topo.Links]] by
  obtain ⟨_,H',h1,id0_,id1_,rfl,h2⟩:=hs
  exact ⟨id0_,id1_,H',h1,h2⟩
 unfold ZcI at h
 have hH:Fp H H [] []:=Fp.refl trivial
 refine Zgc ZzD (λr' H'=>∃ (id0_ id1_:Nat),r'=.fn 91 [] [.ptr id0_ 0,.ptr id1_ 0]/\Fp H H' [] [.cel id0_ [ZU false r.1],.cel id1_ [iv r.2.Topo.Nodes,s_eB false r.2.Topo.Station,ZZ false r.2.Topo.Links]]) (λr' H' ⟨_,_,e,_⟩=>by rw [e];rfl) rfl rfl (sq ?_)
 obtain ⟨id1,H2,hid1,hH2,hH⟩:=Fp.newCell hH (ZP a0_.Topo)
 replace hH:Fp _ _ _ [.cel id1 (ZP a0_.Topo)]:=hH
 obtain ⟨id3,H4,hid3,hH4,hH⟩:=Fp.newCell hH [ZU false a1_]
 replace hH:Fp _ _ _ [.cel id3 [ZU false a1_],.cel id1 (ZP a0_.Topo)]:=hH
 refine rg (ZO.h 0 (Zbb (H:=H) (v:=.agg (ZP a0_.Topo)) (hid:=hid1) (hH:=hH2)) (ZO.h 0 (Zbb (H:=H2) (v:=ZU false a1_) (hid:=hid3) (hH:=hH4)) ZO.f)) (tq (sq (rg ZO.f (tq (rt ?_)))))
 cases h
 exact ⟨[.fn 91 [] [.ptr id3 0,.ptr id1 0]],kr,id3,id1,rfl,Fp.pk hH [0,1] rfl⟩
theorem Zdt {σ:Type}(N:Nat)(y_:σ->Int->Zbk->Option (σ×Bool))(c0_:(List Int))(c1_:ZaD)(s_:σ)(k0_:Nat)(k1_:Nat)(yid_:Nat)(T_:σ->List Zap->Prop)(hy_:∀ (x0:Int) (x1:Zbk) (s:σ) (r:σ×Bool) (H:List HO) (its:List Zap),T_ s its->HP H its->y_ s x0 x1=some r->∃ H' its',Zd4 Try.prog yid_ [iv x0,.agg [iv x1.port,iv x1.from_,iv x1.to_]] H r.2 H'/\T_ r.1 its'/\Fp H H' its its')(H:List HO)(its:List Zap)(hT:T_ s_ its)(hH:HP H (.cel k0_ [ZU false c0_]::.cel k1_ (ZP c1_.Topo)::its))(r:σ)(h:Zcf N y_ c0_ c1_ s_=some r):∃ H' its',Za4 Try.prog 91 [.yl yid_,.ptr k0_ 0,.ptr k1_ 0] H (.tup []) H'/\T_ r its'/\Fp H H' (.cel k0_ [ZU false c0_]::.cel k1_ (ZP c1_.Topo)::its) (.cel k0_ [ZU false c0_]::.cel k1_ (ZP c1_.Topo)::its'):=by
 suffices hs:∃ H',Za4 Try.prog 91 [.yl yid_,.ptr k0_ 0,.ptr k1_ 0] H (.tup []) H'/\∃ its',T_ r its'/\Fp H H' (.cel k0_ [ZU false c0_]::.cel k1_ (ZP c1_.Topo)::its) (.cel k0_ [ZU false c0_]::.cel k1_ (ZP c1_.Topo)::its') by
  obtain ⟨H',h1,its',h2,h3⟩:=hs
  exact ⟨H',its',h1,h2,h3⟩
 unfold Zcf at h
 replace hH:Fp H H (.cel k0_ [ZU false c0_]::.cel k1_ (ZP c1_.Topo)::its) (.cel k0_ [ZU false c0_]::.cel k1_ (ZP c1_.Topo)::its):=Fp.refl hH
 refine ZfU Zzy (λH'=>∃ its',T_ r its'/\Fp H H' (.cel k0_ [ZU false c0_]::.cel k1_ (ZP c1_.Topo)::its) (.cel k0_ [ZU false c0_]::.cel k1_ (ZP c1_.Topo)::its')) rfl rfl rfl (Zk0 (EvI.scope (sq (Zmi (tq (sq ?_))))))
 have hlc1:=Fp.get hH 0 rfl
 refine rg (ZO.u 0 (ZW (H:=H) (id:=k0_) (off:=0) (cs:=[ZU false c0_]) (c:=[ZU false c0_]) (r:=ZU false c0_) (hl:=hlc1)) (ZO.u 0 (Z0 (ys:=[ZU false c0_]) (h:=Z6 eI64)) ZO.f)) (tq (bk ?_))
 obtain ⟨ak,a4,h⟩:=bs h
 refine ZaG ((Zat (λ(x:Int×σ) s=>∃ (its2:List Zap) (H3:List HO),s=⟨[(0,.yl yid_),(2,.ptr k1_ 0),(8,ZU false c0_),(9,iv ((List.length c0_:Nat):Int)),(10,iv x.1)],[],H3⟩/\T_ x.2 its2/\Fp H H3 (.cel k0_ [ZU false c0_]::.cel k1_ (ZP c1_.Topo)::its) (.cel k0_ [ZU false c0_]::.cel k1_ (ZP c1_.Topo)::its2)) (λx:Int×σ=>ZbG N y_ c0_ c1_ x.1 x.2) (λ(p:σ) e s=>e=.exit 0/\(∃ (a0:List Zap) (aa:List HO),s=⟨[],[],aa⟩/\T_ p a0/\Fp H aa (.cel k0_ [ZU false c0_]::.cel k1_ (ZP c1_.Topo)::its) (.cel k0_ [ZU false c0_]::.cel k1_ (ZP c1_.Topo)::a0))) ?_ N _ ak _ a4 ⟨its,H,kr,hT,Fp.at hH⟩).mono ?_)
 ·clear h a4
  rintro ⟨i4,g5⟩ o s h hR
  obtain ⟨its2,H3,rfl,hT,hH⟩:=hR
  replace hH:Fp H H3 (.cel k0_ [ZU false c0_]::.cel k1_ (ZP c1_.Topo)::its) (.cel k0_ [ZU false c0_]::.cel k1_ (ZP c1_.Topo)::its2):=hH
  replace h:ZbG N y_ c0_ c1_ i4 g5=some o:=h
  unfold ZbG at h
  refine sq (rg ZO.f (tq (sq (it h (λao h=>?_) (λao h=>?_)))))
  ·refine sk (tq (kq (sq (bk (sq ?_)))))
   obtain ⟨a3,ac,h⟩:=bs h
   refine rg (ZO.u 1 (Z0 (ys:=[ZU false c0_,iv i4]) (h:=ZY eI64 ac)) (ZO.u 0 (Zae (sz:=1) (off:=0) (cs:=[.int .i64 a3]) (r:=iv a3) eI64 ac) ZO.f)) (tq (sq (sq ?_)))
   obtain ⟨ap,hj,h⟩:=bs h
   refine rgR (λs=>s=⟨[(0,.yl yid_),(2,.ptr k1_ 0),(4,iv i4),(5,iv a3),(8,ZU false c0_),(9,iv ((List.length c0_:Nat):Int)),(10,iv i4),(25,bv ap)],[],H3⟩) ?_ ?_
   ·clear h
    rcases Zau hj with ⟨an,hj⟩|⟨am,hj⟩
    ·obtain rfl:=Zaa hj
     exact (EP.u 1 (ZX (c:=(decide (a3<0))) (h:=an)) (EP.f kr))
    refine (EP.u 1 (ZX (c:=(decide (a3<0))) (h:=am)) ?_)
    have af:=Fp.get hH 1 rfl
    obtain rfl:=Zaa hj
    exact (EP.u 4 (ZW (H:=H3) (id:=k1_) (off:=2) (cs:=(ZP c1_.Topo)) (c:=[ZZ false c1_.Topo.Links]) (r:=ZZ false c1_.Topo.Links) (hl:=af)) (EP.u 0 (Z0 (ys:=[ZZ false c1_.Topo.Links]) (h:=Z6 ZaB)) (EP.f kr)))
   clear hj
   rintro s hR
   obtain rfl:=hR
   refine tq (it h (λal h=>?_) (λal h=>?_))
   ·refine kq (xq (tx (bo (tx ?_))))
    cases h
    exact ⟨_,rfl,rfl,⟨its2,H3,kr,hT,Fp.at hH⟩⟩
   refine sk (tq (kq (sq ?_)))
   have ae:=Fp.get hH 1 rfl
   obtain ⟨a6,ab,h⟩:=bs h
   refine rg (ZO.u 2 (ZW (H:=H3) (id:=k1_) (off:=2) (cs:=(ZP c1_.Topo)) (c:=[ZZ false c1_.Topo.Links]) (r:=ZZ false c1_.Topo.Links) (hl:=ae)) (ZO.u 2 (Z0 (ys:=[ZZ false c1_.Topo.Links,iv (w64 (Int.tdiv a3 2))]) (h:=ZY ZaB ab)) (ZO.u 0 (Zae (sz:=4) (off:=0) (cs:=[.int .i64 a6.A,.int .i64 a6.B,.int .i64 a6.Per,.int .i64 a6.Delay]) (r:=.agg (Zbn a6)) ZaB ab) ZO.f))) (tq (sq (rg ZO.f (tq ?_))))
   obtain ⟨a1,a5,h⟩:=bs h
   refine Zd6 [0,2,4,7,8,9,10] (λs=>s=⟨[(0,.yl yid_),(2,.ptr k1_ 0),(4,iv i4),(7,.loc 7 0),(8,ZU false c0_),(9,iv ((List.length c0_:Nat):Int)),(10,iv i4)],[(7,[iv a3,iv a1.1,iv a1.2])],H3⟩) ?_ ?_
   ·clear h
    have h:=a5
    refine sq (rg ZO.f (tq (it h (λai h=>?_) (λai h=>?_))))
    ·refine rg ZO.f ?_
     cases h
     exact ⟨rfl,kr⟩
    refine sk ?_
    cases h
    exact ⟨rfl,kr⟩
   clear a5
   rintro s hR
   obtain rfl:=hR
   refine sq ?_
   obtain ⟨aj,ad,h⟩:=bs h
   obtain ⟨a7,a2,a8,hT,a9⟩:=hy_ i4 (Zbk.mk a3 a1.1 a1.2) g5 aj H3 its2 hT (Fp.tail (own:=[.cel k0_ [ZU false c0_],.cel k1_ (ZP c1_.Topo)]) (its:=its2) hH) ad
   replace hH:Fp H a7 (.cel k0_ [ZU false c0_]::.cel k1_ (ZP c1_.Topo)::its) (.cel k0_ [ZU false c0_]::.cel k1_ (ZP c1_.Topo)::a2):=Fp.callT (own:=[.cel k0_ [ZU false c0_],.cel k1_ (ZP c1_.Topo)]) (its:=its2) hH a9
   refine rg (ZO.v 3 (ZhZ (H:=H3) (id:=yid_) (ys:=[iv i4,.agg [iv a3,iv a1.1,iv a1.2]]) kr kr kr kr a8) ZO.f) (tq (it h (λag h=>?_) (λag h=>?_)))
   ·refine kq (xq (bo (tx ?_)))
    cases h
    exact ⟨_,rfl,rfl,⟨a2,a7,kr,hT,Fp.at hH⟩⟩
   refine sk (bn (tq (kq (rg ZO.f ?_))))
   cases h
   exact ⟨_,rfl,⟨a2,a7,kr,hT,Fp.at hH⟩⟩
  refine kq (xq (tx ?_))
  cases h
  exact ⟨_,rfl,rfl,⟨its2,H3,kr,hT,Fp.at hH⟩⟩
 rintro e s hq
 obtain ⟨rfl,hR⟩:=hq
 obtain ⟨a0,aa,rfl,hT,hH⟩:=hR
 replace hH:Fp H aa (.cel k0_ [ZU false c0_]::.cel k1_ (ZP c1_.Topo)::its) (.cel k0_ [ZU false c0_]::.cel k1_ (ZP c1_.Topo)::a0):=hH
 refine bx (nn ?_)
 cases h
 exact ⟨[],kr,kr,a0,hT,Fp.at hH⟩
theorem ZeC (N:Nat)(a0_:(List Int))(a1_:Int)(r:Int)(h:Zb7 N a0_ a1_=some r):PCall Try.prog 92 [ZU false a0_,iv a1_] (iv r):=by
 unfold Zb7 at h
 have hH  := hp0
 refine Zal Zzx rfl rfl (Z5 _ _ _ ?_) rfl
 refine sq (rg ZO.f (tq (sq (sq (rg (ZO.u 1 (Z0 (ys:=[ZU false a0_]) (h:=Z6 eI64)) ZO.f) (tq (bk ?_)))))))
 obtain ⟨a2,a0,h⟩:=bs h
 refine ZaG ((Zat (λ(x:Int) s=>s=⟨[(0,ZU false a0_),(1,iv a1_),(7,iv ((List.length a0_:Nat):Int)),(8,iv x)],[],[]⟩) (λx:Int=>Zbm N a0_ a1_ x) (λ(p:(Unit)⊕(Int)) e s=>match p with|(.inl p)=>e=.exit 0/\(s=⟨[],[],[]⟩)|(.inr p)=>e=.ret/\∃ xs,resL s i92.res=some xs/\Zbd xs=iv p) ?_ N _ a2 _ a0 kr).mono ?_)
 ·clear h a0
  rintro i1 o s h hR
  obtain rfl:=hR
  replace h:Zbm N a0_ a1_ i1=some o:=h
  unfold Zbm at h
  refine sq (rg ZO.f (tq (sq (it h (λa4 h=>?_) (λa4 h=>?_)))))
  ·refine sk (tq (kq (sq (bk (sq (rg ZO.f (tq (sq ?_))))))))
   obtain ⟨a5,a1,h⟩:=bs h
   refine rg (ZO.u 3 (Z0 (ys:=[ZU false a0_,iv i1]) (h:=ZY eI64 a1)) (ZO.u 0 (Zae (sz:=1) (off:=0) (cs:=[.int .i64 a5]) (r:=iv a5) eI64 a1) ZO.f)) (tq (it h (λa3 h=>?_) (λa3 h=>?_)))
   ·refine sq (rg ZO.f (tq (rt (br (tr ?_)))))
    cases h
    exact ⟨_,rfl,rfl,Zab kr⟩
   refine sk (bn (tq (kq (rg ZO.f ?_))))
   cases h
   exact ⟨_,rfl,kr⟩
  refine kq (xq (tx ?_))
  cases h
  exact ⟨_,rfl,rfl,kr⟩
 rintro e s hq
 rcases a2 with a7|a6
 ·dsimp only at h hq
  obtain ⟨rfl,hR⟩:=hq
  obtain rfl:=hR
  refine bx (tq (sq (rg ZO.f (tq (rt ?_)))))
  cases h
  exact Zab kr
 dsimp only at h hq
 obtain ⟨rfl,hq⟩:=hq
 refine br (tr ?_)
 cases h
 exact hq
theorem Zds (N:Nat)(a0_:Zan)(r:Int)(h:Zce N a0_=some r):PCall Try.prog 21 [.agg (ZQ a0_)] (iv r):=by
 unfold Zce at h
 have hH  := hp0
 refine Zal ZAG rfl rfl (Z5 _ _ _ ?_) rfl
 refine sq (rg ZO.f (tq (sq (sq ?_))))
 obtain ⟨j5,hj,h⟩:=bs h
 refine rgR (λs=>s=⟨[(1,.loc 1 0),(12,bv j5)],[(1,(ZQ a0_))],[]⟩) ?_ ?_
 ·clear h
  obtain ⟨r1,hr1,hj⟩:=bs hj
  refine (EP.v 2 (Z7 (hc:=ZaK N a0_.Grid 1 10000 r1 hr1)) ?_)
  rcases Zau hj with ⟨hc2,hj⟩|⟨hc3,hj⟩
  ·obtain rfl:=Zaa hj
   exact (EP.u 0 (ZX (c:=(!r1)) (h:=hc2)) (EP.f kr))
  refine (EP.u 0 (ZX (c:=(!r1)) (h:=hc3)) ?_)
  obtain ⟨r4,hr4,hj⟩:=bs hj
  obtain rfl:=Zaa hj
  exact (EP.v 3 (Z7 (hc:=ZaK N a0_.Slack 0 1000 r4 hr4)) (EP.f kr))
 clear hj
 rintro s hR
 obtain rfl:=hR
 refine tq (it h (λhc6 h=>?_) (λhc6 h=>?_))
 ·refine sq (rg ZO.f (tq (rt (tr ?_))))
  cases h
  exact Zab kr
 refine sk (tq (kq (sq (sq ?_))))
 obtain ⟨a3,hj,h⟩:=bs h
 refine rgR (λs=>s=⟨[(22,bv a3)],[],[]⟩) ?_ ?_
 ·clear h
  obtain ⟨r7,hr7,hj⟩:=bs hj
  refine (EP.v 2 (Z7 (hc:=ZaK N a0_.Proc 0 10000 r7 hr7)) ?_)
  rcases Zau hj with ⟨hc8,hj⟩|⟨hc9,hj⟩
  ·obtain rfl:=Zaa hj
   exact (EP.u 0 (ZX (c:=(!r7)) (h:=hc8)) (EP.f kr))
  refine (EP.u 0 (ZX (c:=(!r7)) (h:=hc9)) ?_)
  obtain ⟨a2,a0,hj⟩:=bs hj
  obtain rfl:=Zaa hj
  exact (EP.v 3 (Z7 (hc:=ZaK N a0_.Cap 1542 65536 a2 a0)) (EP.f kr))
 clear hj
 rintro s hR
 obtain rfl:=hR
 refine tq (it h (λa1 h=>?_) (λa1 h=>?_))
 ·refine sq (rg ZO.f (tq (rt (tr ?_))))
  cases h
  exact Zab kr
 refine sk (tq (kq (sq (rg ZO.f (tq (rt ?_))))))
 cases h
 exact Zab kr
theorem ZjK (N:Nat)(a0_:Zah)(a1_:Int)(r:Int×Int)(h:Zht N a0_ a1_=some r):PCall Try.prog 30 [.agg (ZaN a0_),iv a1_] (.tup [iv r.1,iv r.2]):=by
 unfold Zht at h
 have hH  := hp0
 refine Zal ZAx rfl rfl (Z5 _ _ _ ?_) rfl
 refine sq (rg ZO.f (tq (sq (sq ?_))))
 obtain ⟨r1,hr1,h⟩:=bs h
 refine rg (ZO.v 2 (Z7 (hc:=Zgq N a0_ 0 a1_ 0 r1 hr1)) ZO.f) (tq (sq (rg ZO.f (tq (it h (λhc2 h=>?_) (λhc2 h=>?_))))))
 ·refine sq (rg ZO.f (tq (rt (tr ?_))))
  cases h
  exact Zab kr
 refine sk (tq (kq (sq ?_)))
 obtain ⟨r3,hr3,h⟩:=bs h
 refine rg (ZO.v 2 (Z7 (hc:=Zfb N a0_ a1_ r3 hr3)) ZO.f) (tq (sq ?_))
 obtain ⟨e4,he4,h⟩:=bs h
 refine rg (ZO.u 3 (Z0 (ys:=[Z3 false a0_.Entries,iv r3.1]) (h:=ZY Z4 he4)) (ZO.u 1 (Zae (sz:=2) (off:=0) (cs:=[.int .i64 e4.Mask]) (r:=iv e4.Mask) Z4 he4) ZO.f)) (tq (rt ?_))
 cases h
 exact Zab kr
theorem ZjJ (N:Nat)(a0_:Zah)(a1_:Int)(r:Int×Int)(h:Zhs N a0_ a1_=some r):PCall Try.prog 31 [.agg (ZaN a0_),iv a1_] (.tup [iv r.1,iv r.2]):=by
 unfold Zhs at h
 have hH  := hp0
 refine Zal ZAw rfl rfl (Z5 _ _ _ ?_) rfl
 refine sq (rg ZO.f (tq (sq (sq ?_))))
 obtain ⟨r1,hr1,h⟩:=bs h
 refine rg (ZO.v 2 (Z7 (hc:=Zgq N a0_ 0 a1_ 0 r1 hr1)) ZO.f) (tq (sq (rg ZO.f (tq (it h (λhc2 h=>?_) (λhc2 h=>?_))))))
 ·refine sq (rg ZO.f (tq (rt (tr ?_))))
  cases h
  exact Zab kr
 refine sk (tq (kq (sq ?_)))
 obtain ⟨r3,hr3,h⟩:=bs h
 refine rg (ZO.v 2 (Z7 (hc:=Zfb N a0_ a1_ r3 hr3)) ZO.f) (tq (sq ?_))
 obtain ⟨e4,he4,h⟩:=bs h
 obtain ⟨id5,H6,hid5,hH6,hH⟩:=HP.newCell hH [iv 0]
 replace hH:HP _ [.cel id5 [iv 0]]:=hH
 obtain ⟨H7,hH7,hH⟩:=HP.setCell (k:=0) (off:=0) (cs:=[iv 0]) (vs:=[iv e4.Mask]) (cs':=[iv e4.Mask]) hH rfl kr
 replace hH:HP _ [.cel id5 [iv e4.Mask]]:=hH
 refine rg (ZO.u 3 (Z0 (ys:=[Z3 false a0_.Entries,iv r3.1]) (h:=ZY Z4 he4)) (ZO.u 1 (Zae (sz:=2) (off:=0) (cs:=[.int .i64 e4.Mask]) (r:=iv e4.Mask) Z4 he4) (ZO.h 0 (Zcz (H:=[]) kr hid5 hH6) (ZO.o 0 (Zam (H:=H6) (v:=iv e4.Mask) (hw:=hH7)) ZO.f)))) (tq (sq ?_))
 obtain ⟨r8,hr8,h⟩:=bs h
 have hvr8:=(ZhY N a0_ a1_ (λx0=>Zej N x0 e4.Mask)   46 [] [.ptr id5 0] kr [.cel id5 [iv e4.Mask]] (λH x0 r hH h=>Zd1.of kr (ZiJ N  x0 e4.Mask id5 H hH r h)) H7 (HP.now (HP.pick hH [0] rfl)) r8 hr8)
 refine rg (ZO.v 3 (Zc7 (H:=H7) (ys:=[.agg (ZaN a0_),iv a1_,.fn 46 [] [.ptr id5 0]]) kr kr kr hvr8) ZO.f) ?_
 replace hH:HP _ []:=HP.pick hH [] rfl
 refine tq (sq (sq (rg ZO.f (tq (it h (λhc9 h=>?_) (λhc9 h=>?_))))))
 ·refine sq (rg ZO.f (tq (rt (tr ?_))))
  cases h
  exact Zab kr
 refine sk (tq (kq (sq (rg ZO.f (tq (rt ?_))))))
 cases h
 exact Zab kr
theorem Zdm (N:Nat)(a0_:(List Bool))(a1_:Bool)(r:Bool)(h:ZbB N a0_ a1_=some r):PCall Try.prog 48 [s_eB false a0_,bv a1_] (bv r):=by
 unfold ZbB at h
 have hH  := hp0
 refine Zal ZAf rfl rfl (Z5 _ _ _ ?_) rfl
 refine sq (rg ZO.f (tq (sq ?_)))
 obtain ⟨r1,hr1,h⟩:=bs h
 refine rg (ZO.v 2 (Z7 (hc:=Zd3 N a0_ a1_ r1 hr1)) ZO.f) (tq (rt ?_))
 cases h
 exact Zab kr
theorem Zhc (N:Nat)(c0_:Z8)(c1_:Z9)(k0_:Nat)(k1_:Nat)(H:List HO)(hH:HP H [.cel k0_ (ZP c0_),.cel k1_ (ZV c1_)])(r:Bool)(h:Zeu N c0_ c1_=some r):Za4 Try.prog 51 [.ptr k0_ 0,.ptr k1_ 0] H (bv r) H:=by
 unfold Zeu at h
 refine Zbf ZAc rfl rfl rfl (Z5 _ _ _ (sq (rg ZO.f (tq (sq ?_)))))
 obtain ⟨a3,hj,h⟩:=bs h
 refine rgR (λs=>s=⟨[(2,bv a3)],[],H⟩) ?_ ?_
 ·clear h
  have hlc1:=HP.get hH 0 rfl
  refine (EP.u 0 (ZW (H:=H) (id:=k0_) (off:=0) (cs:=(ZP c0_)) (c:=(ZP c0_)) (r:=.agg (ZP c0_)) (hl:=hlc1)) ?_)
  have hlc2:=HP.get hH 1 rfl
  refine (EP.u 1 (ZW (H:=H) (id:=k1_) (off:=1) (cs:=(ZV c1_)) (c:=[iv c1_.Talker]) (r:=iv c1_.Talker) (hl:=hlc2)) ?_)
  obtain ⟨r3,hr3,hj⟩:=bs hj
  rcases Zau hj with ⟨hc4,hj⟩|⟨a1,hj⟩
  ·refine (EP.h 0 (Zb3 kr (Zcd N c0_ c1_.Talker r3 hr3) hc4) ?_)
   have hlc5:=HP.get hH 0 rfl
   refine (EP.u 1 (ZW (H:=H) (id:=k0_) (off:=0) (cs:=(ZP c0_)) (c:=(ZP c0_)) (r:=.agg (ZP c0_)) (hl:=hlc5)) ?_)
   have hlc6:=HP.get hH 1 rfl
   refine (EP.u 1 (ZW (H:=H) (id:=k1_) (off:=2) (cs:=(ZV c1_)) (c:=[iv c1_.Listener]) (r:=iv c1_.Listener) (hl:=hlc6)) ?_)
   obtain ⟨r7,hr7,hj⟩:=bs hj
   rcases Zau hj with ⟨hc8,hj⟩|⟨a2,hj⟩
   ·refine (EP.h 0 (Zb3 kr (Zcd N c0_ c1_.Listener r7 hr7) hc8) ?_)
    have hlc9:=HP.get hH 1 rfl
    refine (EP.u 3 (ZW (H:=H) (id:=k1_) (off:=1) (cs:=(ZV c1_)) (c:=[iv c1_.Talker]) (r:=iv c1_.Talker) (hl:=hlc9)) ?_)
    have a0:=HP.get hH 1 rfl
    obtain rfl:=Zaa hj
    exact (EP.u 1 (ZW (H:=H) (id:=k1_) (off:=2) (cs:=(ZV c1_)) (c:=[iv c1_.Listener]) (r:=iv c1_.Listener) (hl:=a0)) (EP.f kr))
   obtain rfl:=Zaa hj
   exact (EP.h 0 (Zb3 kr (Zcd N c0_ c1_.Listener r7 hr7) a2) (EP.f kr))
  obtain rfl:=Zaa hj
  exact (EP.h 0 (Zb3 kr (Zcd N c0_ c1_.Talker r3 hr3) a1) (EP.f kr))
 clear hj
 rintro s hR
 obtain rfl:=hR
 refine tq (rt ?_)
 cases h
 exact Za0 kr kr
theorem ZiQ (N:Nat)(a0_:ZeO)(r:Int)(h:ZfS N a0_=some r):PCall Try.prog 56 [.agg (Zdi a0_)] (iv r):=by
 unfold ZfS at h
 have hH  := hp0
 refine Zal Zz7 rfl rfl (Z5 _ _ _ ?_) rfl
 refine sq (rg ZO.f (tq (sq (sq ?_))))
 obtain ⟨j5,hj,h⟩:=bs h
 refine rgR (λs=>s=⟨[(12,bv j5)],[],[]⟩) ?_ ?_
 ·clear h
  obtain ⟨r1,hr1,hj⟩:=bs hj
  refine (EP.v 2 (Z7 (hc:=Zdu N a0_.Burst 1 1048576 r1 hr1)) ?_)
  rcases Zau hj with ⟨hc2,hj⟩|⟨hc3,hj⟩
  ·obtain rfl:=Zaa hj
   exact (EP.u 0 (ZX (c:=(!r1)) (h:=hc2)) (EP.f kr))
  refine (EP.u 0 (ZX (c:=(!r1)) (h:=hc3)) ?_)
  obtain ⟨r4,hr4,hj⟩:=bs hj
  obtain rfl:=Zaa hj
  exact (EP.v 3 (Z7 (hc:=Zdu N a0_.Rate 1 2097152 r4 hr4)) (EP.f kr))
 clear hj
 rintro s hR
 obtain rfl:=hR
 refine tq (it h (λhc6 h=>?_) (λhc6 h=>?_))
 ·refine sq (rg ZO.f (tq (rt (tr ?_))))
  cases h
  exact Zab kr
 refine sk (tq (kq (sq (rg ZO.f (tq (rt ?_))))))
 cases h
 exact Zab kr
theorem Zip (N:Nat)(a0_:Int)(a1_:(List Int))(r:Int)(h:ZfE N a0_ a1_=some r):PCall Try.prog 66 [iv a0_,ZU false a1_] (iv r):=by
 unfold ZfE at h
 have hH  := hp0
 refine Zal ZzX rfl rfl (Z5 _ _ _ ?_) rfl
 refine sq (rg ZO.f (tq (sq (rg ZO.f (tq (sq (sq (rg (ZO.u 1 (Z0 (ys:=[ZU false a1_]) (h:=Z6 eI64)) ZO.f) (tq (bk ?_))))))))))
 obtain ⟨a8,a0,h⟩:=bs h
 refine ZaG ((Zat (λ(x:Int×Int) s=>s=⟨[(0,iv a0_),(5,iv x.1),(8,ZU false a1_),(9,iv ((List.length a1_:Nat):Int)),(10,iv x.2)],[],[]⟩) (λx:Int×Int=>ZcL N a0_ a1_ x.1 x.2) (λ(p:Int) e s=>e=.exit 0/\(s=⟨[(5,iv p)],[],[]⟩)) ?_ N _ a8 _ a0 kr).mono ?_)
 ·clear h a0
  rintro ⟨i1,i2⟩ o s h hR
  obtain rfl:=hR
  replace h:ZcL N a0_ a1_ i1 i2=some o:=h
  unfold ZcL at h
  refine sq (rg ZO.f (tq (sq (it h (λa7 h=>?_) (λa7 h=>?_)))))
  ·refine sk (tq (kq (sq (bk (sq ?_)))))
   obtain ⟨a2,a1,h⟩:=bs h
   refine rg (ZO.u 0 (Z0 (ys:=[ZU false a1_,iv i2]) (h:=ZY eI64 a1)) (ZO.u 0 (Zae (sz:=1) (off:=0) (cs:=[.int .i64 a2]) (r:=iv a2) eI64 a1) ZO.f)) (tq (sq ?_))
   obtain ⟨a3,a4,h⟩:=bs h
   obtain ⟨a9,a5,h⟩:=bs h
   refine rg (ZO.v 3 (Z7 (hc:=Zgn N i1 a2 a3 a4)) (ZO.u 0 (Z0 (ys:=[iv i1,iv a3]) (h:=Zez a5)) ZO.f)) (tq (sq (rg ZO.f (tq (it h (λa6 h=>?_) (λa6 h=>?_))))))
   ·refine kq (xq (bo (tx ?_)))
    cases h
    exact ⟨_,rfl,rfl,kr⟩
   refine sk (bn (tq (kq (rg ZO.f ?_))))
   cases h
   exact ⟨_,rfl,kr⟩
  refine kq (xq (tx ?_))
  cases h
  exact ⟨_,rfl,rfl,kr⟩
 rintro e s hq
 obtain ⟨rfl,hR⟩:=hq
 obtain rfl:=hR
 refine bx (tq (sq (rg ZO.f (tq (rt ?_)))))
 cases h
 exact Zab kr
theorem Zie (N:Nat)(a0_:Int)(c0_:Z8)(k0_:Nat)(H:List HO)(hH:HP H [.cel k0_ (ZP c0_)])(r:Bool)(h:Zft N a0_ c0_=some r):Za4 Try.prog 68 [iv a0_,.ptr k0_ 0] H (bv r) H:=by
 unfold Zft at h
 refine Zbf ZzV rfl rfl rfl (Z5 _ _ _ (sq (rg ZO.f (tq (sq ?_)))))
 have hlc1:=HP.get hH 0 rfl
 obtain ⟨e2,he2,h⟩:=bs h
 refine rg (ZO.u 1 (ZW (H:=H) (id:=k0_) (off:=2) (cs:=(ZP c0_)) (c:=[ZZ false c0_.Links]) (r:=ZZ false c0_.Links) (hl:=hlc1)) (ZO.u 1 (Z0 (ys:=[ZZ false c0_.Links,iv a0_]) (h:=ZY ZaB he2)) (ZO.u 0 (Zae (sz:=4) (off:=0) (cs:=[.int .i64 e2.A,.int .i64 e2.B,.int .i64 e2.Per,.int .i64 e2.Delay]) (r:=.agg (Zbn e2)) ZaB he2) ZO.f))) (tq (sq ?_))
 obtain ⟨a1,hj,h⟩:=bs h
 refine rgR (λs=>s=⟨[(3,bv a1)],[],H⟩) ?_ ?_
 ·clear h
  have hlc3:=HP.get hH 0 rfl
  refine (EP.u 0 (ZW (H:=H) (id:=k0_) (off:=0) (cs:=(ZP c0_)) (c:=(ZP c0_)) (r:=.agg (ZP c0_)) (hl:=hlc3)) ?_)
  obtain ⟨r4,hr4,hj⟩:=bs hj
  rcases Zau hj with ⟨hc5,hj⟩|⟨a0,hj⟩
  ·refine (EP.h 2 (Zb3 kr (Zd7 N c0_ e2.A r4 hr4) hc5) ?_)
   have hlc6:=HP.get hH 0 rfl
   refine (EP.u 1 (ZW (H:=H) (id:=k0_) (off:=0) (cs:=(ZP c0_)) (c:=(ZP c0_)) (r:=.agg (ZP c0_)) (hl:=hlc6)) ?_)
   obtain ⟨r7,hr7,hj⟩:=bs hj
   rcases Zau hj with ⟨hc8,hj⟩|⟨hc9,hj⟩
   ·obtain rfl:=Zaa hj
    exact (EP.h 2 (Zb3 kr (Zd7 N c0_ e2.B r7 hr7) hc8) (EP.f kr))
   obtain rfl:=Zaa hj
   exact (EP.h 2 (Zb3 kr (Zd7 N c0_ e2.B r7 hr7) hc9) (EP.f kr))
  obtain rfl:=Zaa hj
  exact (EP.h 2 (Zb3 kr (Zd7 N c0_ e2.A r4 hr4) a0) (EP.f kr))
 clear hj
 rintro s hR
 obtain rfl:=hR
 refine tq (rt ?_)
 cases h
 exact Za0 kr kr
theorem ZdY (N:Nat)(a0_:ZaD)(a1_:(List Int))(r:Bool)(h:Zcu N a0_ a1_=some r):PCall Try.prog 78 [.agg (ZP a0_.Topo),ZU false a1_] (bv r):=by
 unfold Zcu at h
 have hH  := hp0
 refine Zal ZzL rfl rfl (Z5 _ _ _ ?_) rfl
 refine sq ?_
 obtain ⟨id1,H2,hid1,hH2,hH⟩:=HP.newCell hH (ZP a0_.Topo)
 replace hH:HP _ [.cel id1 (ZP a0_.Topo)]:=hH
 refine rgS ⟨[(1,ZU false a1_),(2,.ptr id1 0)],[],H2⟩ (ZO.h 0 (Zbb (H:=[]) (v:=.agg (ZP a0_.Topo)) (hid:=hid1) (hH:=hH2)) ZO.f) kr (tq (sq (sq (rgX ⟨[(1,ZU false a1_),(2,.ptr id1 0),(17,bv ((decide (((List.length a1_:Nat):Int)<1))||(decide (((List.length a1_:Nat):Int)>8))))],[],H2⟩ ?_ ?_))))
 ·refine (EP.u 1 (Z0 (ys:=[ZU false a1_]) (h:=Z6 eI64)) ?_)
  rcases Bool.eq_false_or_eq_true (decide (((List.length a1_:Nat):Int)<1)) with hc3|hc4
  ·exact (EP.u 0 (ZX (c:=(decide (((List.length a1_:Nat):Int)<1))) (h:=hc3)) (EP.f (by simp only [hc3];kernel_rfl)))
  exact (EP.u 0 (ZX (c:=(decide (((List.length a1_:Nat):Int)<1))) (h:=hc4)) (EP.u 2 (Z0 (ys:=[ZU false a1_]) (h:=Z6 eI64)) (EP.f (by simp only [hc4];kernel_rfl))))
 refine tq (it h (λhc5 h=>?_) (λhc5 h=>?_))
 ·refine sq (rgS ⟨[(4,bv false)],[],H2⟩ ZO.f kr ?_)
  replace hH:HP _ []:=HP.pick hH [] rfl
  refine tq (rt (tr ?_))
  cases h
  exact Zab kr
 refine sk (tq (kq (sq ?_)))
 obtain ⟨id6,H7,hid6,hH7,hH⟩:=HP.newCell hH (Zac (Z1.mk false false false false false false false false false false false false))
 replace hH:HP _ [.cel id6 (Zac (Z1.mk false false false false false false false false false false false false)),.cel id1 (ZP a0_.Topo)]:=hH
 refine rgS ⟨[(1,ZU false a1_),(2,.ptr id1 0),(5,.ptr id6 0)],[],H7⟩ (ZO.h 0 (Zcz (H:=H2) kr hid6 hH7) ZO.f) kr (tq (sq ?_))
 obtain ⟨id8,H9,hid8,hH9,hH⟩:=HP.newCell hH [iv 0]
 replace hH:HP _ [.cel id8 [iv 0],.cel id6 (Zac (Z1.mk false false false false false false false false false false false false)),.cel id1 (ZP a0_.Topo)]:=hH
 obtain ⟨a1,bz,bc,bp,hH⟩:=HP.newCell hH [iv 0]
 replace hH:HP _ [.cel a1 [iv 0],.cel id8 [iv 0],.cel id6 (Zac (Z1.mk false false false false false false false false false false false false)),.cel id1 (ZP a0_.Topo)]:=hH
 obtain ⟨bw,bm,hH⟩:=HP.setCell (k:=1) (off:=0) (cs:=[iv 0]) (vs:=[iv 0]) (cs':=[iv 0]) hH rfl kr
 replace hH:HP _ [.cel a1 [iv 0],.cel id8 [iv 0],.cel id6 (Zac (Z1.mk false false false false false false false false false false false false)),.cel id1 (ZP a0_.Topo)]:=hH
 obtain ⟨bj,bl,hH⟩:=HP.setCell (k:=0) (off:=0) (cs:=[iv 0]) (vs:=[iv 0]) (cs':=[iv 0]) hH rfl kr
 replace hH:HP _ [.cel a1 [iv 0],.cel id8 [iv 0],.cel id6 (Zac (Z1.mk false false false false false false false false false false false false)),.cel id1 (ZP a0_.Topo)]:=hH
 refine rgS ⟨[(1,ZU false a1_),(2,.ptr id1 0),(5,.ptr id6 0),(6,.ptr id8 0),(7,.ptr a1 0)],[],bj⟩ (ZO.h 0 (Zcz (H:=H7) kr hid8 hH9) (ZO.h 0 (Zcz (H:=H9) kr bc bp) (ZO.o 0 (Zam (H:=bz) (v:=iv 0) (hw:=bm)) (ZO.o 0 (Zam (H:=bw) (v:=iv 0) (hw:=bl)) ZO.f)))) kr (tq ?_)
 obtain ⟨af,aB,h⟩:=bs h
 refine Zd6 [1,7] (λs=>∃ (an:List HO),s=⟨[(1,ZU false a1_),(7,.ptr a1 0)],[],an⟩/\HP an [.cel a1 [iv af]]) ?_ ?_
 ·clear h
  have h:=aB
  refine sq ?_
  have aK:=HP.get hH 3 rfl
  obtain ⟨aa,bb,h⟩:=bs h
  obtain ⟨a9,a8,a4,aG,aI⟩:=Zeb N a0_ a1_ bj aa bb
  replace hH:HP _ [.cel a9 [ZU false aa.1],.cel a8 (ZP aa.2.Topo),.cel a1 [iv 0],.cel id8 [iv 0],.cel id6 (Zac (Z1.mk false false false false false false false false false false false false)),.cel id1 (ZP a0_.Topo)]:=HP.callee (fp:=[]) (rest:=[.cel a1 [iv 0],.cel id8 [iv 0],.cel id6 (Zac (Z1.mk false false false false false false false false false false false false)),.cel id1 (ZP a0_.Topo)]) hH aI
  refine rgS ⟨[(1,ZU false a1_),(2,.ptr id1 0),(5,.ptr id6 0),(6,.ptr id8 0),(7,.ptr a1 0),(20,.fn 91 [] [.ptr a9 0,.ptr a8 0])],[],a4⟩ (ZO.u 0 (ZW (H:=bj) (id:=id1) (off:=0) (cs:=(ZP a0_.Topo)) (c:=(ZP a0_.Topo)) (r:=.agg (ZP a0_.Topo)) (hl:=aK)) (ZO.v 1 (Zc7 (H:=bj) (ys:=[.agg (ZP a0_.Topo),ZU false a1_]) kr kr kr aG) ZO.f)) kr (tq (bk ?_))
  obtain ⟨ab,aJ,h⟩:=bs h
  have aq:∀ (a7:Int) (a0:Zbk) (s:(Int×Int×Z1)×Nat) (r:((Int×Int×Z1)×Nat)×Bool) (H:List HO) (its:List Zap),(λ(s:(Int×Int×Z1)×Nat) (its:List Zap)=>its=[.cel a1 [iv s.1.1],.cel id8 [iv s.1.2.1],.cel id6 (Zac s.1.2.2),.cel id1 (ZP a0_.Topo)]++[.lp (List.length a4) (lcOf Try.prog i78.nt [21,22] ZcQ ZcO) [(2,.ptr id1 0),(5,.ptr id6 0),(6,.ptr id8 0),(7,.ptr a1 0)] (stAt [.ready,.done (.exit 0)] s.2)]) s its->HP H its->(λ(s:(Int×Int×Z1)×Nat) (a7:Int) (a0:Zbk)=>Zfp (λv:Int×Int×Z1=>Zbv N a0_ v.1 v.2.1 v.2.2 a7 a0) s) s a7 a0=some r->∃ H' its',Zd4 Try.prog (List.length a4) [iv a7,.agg (ZaH a0)] H r.2 H'/\(λ(s:(Int×Int×Z1)×Nat) (its:List Zap)=>its=[.cel a1 [iv s.1.1],.cel id8 [iv s.1.2.1],.cel id6 (Zac s.1.2.2),.cel id1 (ZP a0_.Topo)]++[.lp (List.length a4) (lcOf Try.prog i78.nt [21,22] ZcQ ZcO) [(2,.ptr id1 0),(5,.ptr id6 0),(6,.ptr id8 0),(7,.ptr a1 0)] (stAt [.ready,.done (.exit 0)] s.2)]) r.1 its'/\Fp H H' its its':=by
   clear h
   intro a7 a0 s r ac its hT hH h
   obtain ⟨h0,q,hb,rfl⟩:=Zgs h
   clear h
   obtain ⟨vs,e⟩:=s
   obtain rfl:e=0:=h0
   obtain ⟨a3,a5,a2⟩:=vs
   obtain rfl:=hT
   replace h:Zbv N a0_ a3 a5 a2 a7 a0=some q:=hb
   clear hb
   unfold Zbv at h
   replace hH:Fp _ _ _ [.cel a1 [iv a3],.cel id8 [iv a5],.cel id6 (Zac a2),.cel id1 (ZP a0_.Topo),.lp (List.length a4) (lcOf Try.prog i78.nt [21,22] ZcQ ZcO) [(2,.ptr id1 0),(5,.ptr id6 0),(6,.ptr id8 0),(7,.ptr a1 0)] .ready]:=Fp.refl hH
   suffices hs:∃ H',Zd4 Try.prog (List.length a4) [iv a7,.agg (ZaH a0)] ac (q.2==0) H'/\∃ its',(λ(s:(Int×Int×Z1)×Nat) (its:List Zap)=>its=[.cel a1 [iv s.1.1],.cel id8 [iv s.1.2.1],.cel id6 (Zac s.1.2.2),.cel id1 (ZP a0_.Topo)]++[.lp (List.length a4) (lcOf Try.prog i78.nt [21,22] ZcQ ZcO) [(2,.ptr id1 0),(5,.ptr id6 0),(6,.ptr id8 0),(7,.ptr a1 0)] (stAt [.ready,.done (.exit 0)] s.2)]) q its'/\Fp ac H' [.cel a1 [iv a3],.cel id8 [iv a5],.cel id6 (Zac a2),.cel id1 (ZP a0_.Topo),.lp (List.length a4) (lcOf Try.prog i78.nt [21,22] ZcQ ZcO) [(2,.ptr id1 0),(5,.ptr id6 0),(6,.ptr id8 0),(7,.ptr a1 0)] .ready] its' by
    obtain ⟨H',h1,its',h2,h3⟩:=hs
    exact ⟨H',its',h1,h2,h3⟩
   refine ZdV (id:=(List.length a4)) (args:=[iv a7,.agg (ZaH a0)]) (H:=ac) (n:=i78.nt) (ps:=[21,22]) (fr0:=[(2,.ptr id1 0),(5,.ptr id6 0),(6,.ptr id8 0),(7,.ptr a1 0)]) (ia:=ZcQ) (ib:=ZcO) (q.2==0) (λH'=>∃ its',(λ(s:(Int×Int×Z1)×Nat) (its:List Zap)=>its=[.cel a1 [iv s.1.1],.cel id8 [iv s.1.2.1],.cel id6 (Zac s.1.2.2),.cel id1 (ZP a0_.Topo)]++[.lp (List.length a4) (lcOf Try.prog i78.nt [21,22] ZcQ ZcO) [(2,.ptr id1 0),(5,.ptr id6 0),(6,.ptr id8 0),(7,.ptr a1 0)] (stAt [.ready,.done (.exit 0)] s.2)]) q its'/\Fp ac H' [.cel a1 [iv a3],.cel id8 [iv a5],.cel id6 (Zac a2),.cel id1 (ZP a0_.Topo),.lp (List.length a4) (lcOf Try.prog i78.nt [21,22] ZcQ ZcO) [(2,.ptr id1 0),(5,.ptr id6 0),(6,.ptr id8 0),(7,.ptr a1 0)] .ready] its') (Fp.get hH 4 rfl) rfl (by decide +kernel) rfl ?_
   show vc _ _ _ _ ⟨[(2,.ptr id1 0),(5,.ptr id6 0),(6,.ptr id8 0),(7,.ptr a1 0),(21,iv a7),(22,.agg (ZaH a0))],[],ac⟩
   refine sq (rgS ⟨[(2,.ptr id1 0),(5,.ptr id6 0),(6,.ptr id8 0),(7,.ptr a1 0),(8,iv a7),(22,.agg (ZaH a0))],[],ac⟩ ZO.f kr (tq (rgS ⟨[(2,.ptr id1 0),(5,.ptr id6 0),(6,.ptr id8 0),(7,.ptr a1 0),(8,iv a7),(9,.loc 9 0)],[(9,(ZaH a0))],ac⟩ ZO.f kr (ZgH (k:=4) hH rfl ?_))))
   intro a6 hH
   replace hH:Fp _ _ _ [.cel a1 [iv a3],.cel id8 [iv a5],.cel id6 (Zac a2),.cel id1 (ZP a0_.Topo),.lp (List.length a4) (lcOf Try.prog i78.nt [21,22] ZcQ ZcO) [(2,.ptr id1 0),(5,.ptr id6 0),(6,.ptr id8 0),(7,.ptr a1 0)] .busy]:=hH
   show vc _ _ _ _ ⟨[(2,.ptr id1 0),(5,.ptr id6 0),(6,.ptr id8 0),(7,.ptr a1 0),(8,iv a7),(9,.loc 9 0)],[(9,(ZaH a0))],a6⟩
   refine bk (sq (sq (rgS ⟨[(2,.ptr id1 0),(5,.ptr id6 0),(6,.ptr id8 0),(7,.ptr a1 0),(9,.loc 9 0),(24,bv (a7==0))],[(9,(ZaH a0))],a6⟩ ZO.f kr (tq (it h (λaV h=>?_) (λaV h=>?_))))))
   ·obtain ⟨bu,am,h⟩:=bs h
    obtain ⟨ae,b2,hH⟩:=Fp.setCell (k:=2) (off:=0+Int.toNat a0.from_*1) (cs:=(Zac a2)) (vs:=[bv true]) (cs':=(Zac (Z1.set a2 a0.from_ true))) hH rfl (Zhe (λx=>bv x) [] [] (l:=a2.l) am rfl rfl rfl (ZkW (Z1.c_set a2 a0.from_ true) (by show (Zac (Z1.set a2 a0.from_ true))=[]++(Zac (Z1.set a2 a0.from_ true)++[]);rfl)))
    replace hH:Fp _ _ _ [.cel a1 [iv a3],.cel id8 [iv a5],.cel id6 (Zac (Z1.set a2 a0.from_ true)),.cel id1 (ZP a0_.Topo),.lp (List.length a4) (lcOf Try.prog i78.nt [21,22] ZcQ ZcO) [(2,.ptr id1 0),(5,.ptr id6 0),(6,.ptr id8 0),(7,.ptr a1 0)] .busy]:=hH
    refine rgS ⟨[(5,.ptr id6 0),(6,.ptr id8 0),(7,.ptr a1 0),(9,.loc 9 0)],[(9,(ZaH a0))],ae⟩ (ZO.u 2 (Z0 (ys:=[.ptr id6 0,iv a0.from_]) (h:=Zde (l:=a2.l) am rfl)) (ZO.o 0 (Zam (H:=a6) (v:=bv true) (hw:=b2)) ZO.f)) kr (tq (kq (sq (sq ?_))))
    obtain ⟨be,al,h⟩:=bs h
    have aA:=Fp.get hH 2 rfl
    refine rgS ⟨[(5,.ptr id6 0),(6,.ptr id8 0),(7,.ptr a1 0),(9,.loc 9 0),(43,bv be)],[(9,(ZaH a0))],ae⟩ (ZO.u 2 (Z0 (ys:=[.ptr id6 0,iv a0.to_]) (h:=Zde (l:=(Z1.set a2 a0.from_ true).l) al rfl)) (ZO.u 0 (Zj4 (H:=ae) (id:=id6) (off:=0) (cs:=(Zac (Z1.set a2 a0.from_ true))) (l:=(Z1.set a2 a0.from_ true).l) (λx=>bv x) [] [] al kr kr aA rfl rfl) ZO.f)) kr (tq (it h (λaU h=>?_) (λaU h=>?_)))
    ·refine kq (xq (tx (bo ?_)))
     cases h
     exact rbd (k:=4) (.done (.exit 0)) hH rfl rfl (λH6 hH=>⟨_,(Eq.refl _),(Fp.pick hH [0,1,2,3,4] rfl)⟩)
    refine sk (tq (kq (sq ?_)))
    obtain ⟨bt,ak,h⟩:=bs h
    obtain ⟨aE,b1,hH⟩:=Fp.setCell (k:=2) (off:=0+Int.toNat a0.to_*1) (cs:=(Zac (Z1.set a2 a0.from_ true))) (vs:=[bv true]) (cs':=(Zac (Z1.set (Z1.set a2 a0.from_ true) a0.to_ true))) hH rfl (Zhe (λx=>bv x) [] [] (l:=(Z1.set a2 a0.from_ true).l) ak rfl rfl rfl (ZkW (Z1.c_set (Z1.set a2 a0.from_ true) a0.to_ true) (by show (Zac (Z1.set (Z1.set a2 a0.from_ true) a0.to_ true))=[]++(Zac (Z1.set (Z1.set a2 a0.from_ true) a0.to_ true)++[]);rfl)))
    replace hH:Fp _ _ _ [.cel a1 [iv a3],.cel id8 [iv a5],.cel id6 (Zac (Z1.set (Z1.set a2 a0.from_ true) a0.to_ true)),.cel id1 (ZP a0_.Topo),.lp (List.length a4) (lcOf Try.prog i78.nt [21,22] ZcQ ZcO) [(2,.ptr id1 0),(5,.ptr id6 0),(6,.ptr id8 0),(7,.ptr a1 0)] .busy]:=hH
    refine rgS ⟨[(6,.ptr id8 0),(7,.ptr a1 0),(9,.loc 9 0)],[(9,(ZaH a0))],aE⟩ (ZO.u 2 (Z0 (ys:=[.ptr id6 0,iv a0.to_]) (h:=Zde (l:=(Z1.set a2 a0.from_ true).l) ak rfl)) (ZO.o 0 (Zam (H:=ae) (v:=bv true) (hw:=b1)) ZO.f)) kr (tq (sq ?_))
    obtain ⟨ap,b0,hH⟩:=Fp.setCell (k:=1) (off:=0) (cs:=[iv a5]) (vs:=[iv a0.to_]) (cs':=[iv a0.to_]) hH rfl kr
    replace hH:Fp _ _ _ [.cel a1 [iv a3],.cel id8 [iv a0.to_],.cel id6 (Zac (Z1.set (Z1.set a2 a0.from_ true) a0.to_ true)),.cel id1 (ZP a0_.Topo),.lp (List.length a4) (lcOf Try.prog i78.nt [21,22] ZcQ ZcO) [(2,.ptr id1 0),(5,.ptr id6 0),(6,.ptr id8 0),(7,.ptr a1 0)] .busy]:=hH
    refine rgS ⟨[(7,.ptr a1 0)],[],ap⟩ (ZO.o 2 (Zam (H:=aE) (v:=iv a0.to_) (hw:=b0)) ZO.f) kr (tq ?_)
    have az:=Fp.get hH 0 rfl
    obtain ⟨bi,aZ,hH⟩:=Fp.setCell (k:=0) (off:=0) (cs:=[iv a3]) (vs:=[iv (w64 (a3+1))]) (cs':=[iv (w64 (a3+1))]) hH rfl kr
    replace hH:Fp _ _ _ [.cel a1 [iv (w64 (a3+1))],.cel id8 [iv a0.to_],.cel id6 (Zac (Z1.set (Z1.set a2 a0.from_ true) a0.to_ true)),.cel id1 (ZP a0_.Topo),.lp (List.length a4) (lcOf Try.prog i78.nt [21,22] ZcQ ZcO) [(2,.ptr id1 0),(5,.ptr id6 0),(6,.ptr id8 0),(7,.ptr a1 0)] .busy]:=hH
    refine rgS ⟨[],[],bi⟩ (ZO.u 0 (ZW (H:=ap) (id:=a1) (off:=0) (cs:=[iv a3]) (c:=[iv a3]) (r:=iv a3) (hl:=az)) (ZO.o 1 (Zam (H:=ap) (v:=iv (w64 (a3+1))) (hw:=aZ)) ZO.f)) kr (bn ?_)
    cases h
    exact rbd (k:=4) (.ready) hH rfl rfl (λH6 hH=>⟨_,(Eq.refl _),(Fp.pick hH [0,1,2,3,4] rfl)⟩)
   refine sq ?_
   obtain ⟨ba,hj,h⟩:=bs h
   refine rgR (λs=>s=⟨[(5,.ptr id6 0),(6,.ptr id8 0),(7,.ptr a1 0),(9,.loc 9 0),(39,bv ba)],[(9,(ZaH a0))],a6⟩) ?_ ?_
   ·clear h
    have ay:=Fp.get hH 1 rfl
    refine (EP.u 2 (ZW (H:=a6) (id:=id8) (off:=0) (cs:=[iv a5]) (c:=[iv a5]) (r:=iv a5) (hl:=ay)) ?_)
    rcases Zau hj with ⟨aT,hj⟩|⟨aS,hj⟩
    ·obtain rfl:=Zaa hj
     exact (EP.u 0 (ZX (c:=(a0.from_ != a5)) (h:=aT)) (EP.f kr))
    refine (EP.u 0 (ZX (c:=(a0.from_ != a5)) (h:=aS)) ?_)
    have ax:=Fp.get hH 3 rfl
    refine (EP.u 3 (ZW (H:=a6) (id:=id1) (off:=1) (cs:=(ZP a0_.Topo)) (c:=[s_eB false a0_.Topo.Station]) (r:=s_eB false a0_.Topo.Station) (hl:=ax)) ?_)
    have aw:=Fp.get hH 1 rfl
    refine (EP.u 0 (ZW (H:=a6) (id:=id8) (off:=0) (cs:=[iv a5]) (c:=[iv a5]) (r:=iv a5) (hl:=aw)) ?_)
    obtain ⟨aC,aj,hj⟩:=bs hj
    obtain rfl:=Zaa hj
    exact (EP.u 0 (Z0 (ys:=[s_eB false a0_.Topo.Station,iv a5]) (h:=ZY eB aj)) (EP.u 0 (Zae (sz:=1) (off:=0) (cs:=[.bool aC]) (r:=bv aC) eB aj) (EP.f kr)))
   clear hj
   rintro s hR
   obtain rfl:=hR
   refine tq (it h (λaR h=>?_) (λaR h=>?_))
   ·refine kq (xq (tx (bo ?_)))
    cases h
    exact rbd (k:=4) (.done (.exit 0)) hH rfl rfl (λH6 hH=>⟨_,(Eq.refl _),(Fp.pick hH [0,1,2,3,4] rfl)⟩)
   refine sk (tq (kq (sq (sq ?_))))
   obtain ⟨bd,ai,h⟩:=bs h
   have av:=Fp.get hH 2 rfl
   refine rgS ⟨[(5,.ptr id6 0),(6,.ptr id8 0),(7,.ptr a1 0),(9,.loc 9 0),(43,bv bd)],[(9,(ZaH a0))],a6⟩ (ZO.u 2 (Z0 (ys:=[.ptr id6 0,iv a0.to_]) (h:=Zde (l:=a2.l) ai rfl)) (ZO.u 0 (Zj4 (H:=a6) (id:=id6) (off:=0) (cs:=(Zac a2)) (l:=a2.l) (λx=>bv x) [] [] ai kr kr av rfl rfl) ZO.f)) kr (tq (it h (λaQ h=>?_) (λaQ h=>?_)))
   ·refine kq (xq (tx (bo ?_)))
    cases h
    exact rbd (k:=4) (.done (.exit 0)) hH rfl rfl (λH6 hH=>⟨_,(Eq.refl _),(Fp.pick hH [0,1,2,3,4] rfl)⟩)
   refine sk (tq (kq (sq ?_)))
   obtain ⟨bq,ag,h⟩:=bs h
   obtain ⟨aD,aY,hH⟩:=Fp.setCell (k:=2) (off:=0+Int.toNat a0.to_*1) (cs:=(Zac a2)) (vs:=[bv true]) (cs':=(Zac (Z1.set a2 a0.to_ true))) hH rfl (Zhe (λx=>bv x) [] [] (l:=a2.l) ag rfl rfl rfl (ZkW (Z1.c_set a2 a0.to_ true) (by show (Zac (Z1.set a2 a0.to_ true))=[]++(Zac (Z1.set a2 a0.to_ true)++[]);rfl)))
   replace hH:Fp _ _ _ [.cel a1 [iv a3],.cel id8 [iv a5],.cel id6 (Zac (Z1.set a2 a0.to_ true)),.cel id1 (ZP a0_.Topo),.lp (List.length a4) (lcOf Try.prog i78.nt [21,22] ZcQ ZcO) [(2,.ptr id1 0),(5,.ptr id6 0),(6,.ptr id8 0),(7,.ptr a1 0)] .busy]:=hH
   refine rgS ⟨[(6,.ptr id8 0),(7,.ptr a1 0),(9,.loc 9 0)],[(9,(ZaH a0))],aD⟩ (ZO.u 2 (Z0 (ys:=[.ptr id6 0,iv a0.to_]) (h:=Zde (l:=a2.l) ag rfl)) (ZO.o 0 (Zam (H:=a6) (v:=bv true) (hw:=aY)) ZO.f)) kr (tq (sq ?_))
   obtain ⟨ao,aX,hH⟩:=Fp.setCell (k:=1) (off:=0) (cs:=[iv a5]) (vs:=[iv a0.to_]) (cs':=[iv a0.to_]) hH rfl kr
   replace hH:Fp _ _ _ [.cel a1 [iv a3],.cel id8 [iv a0.to_],.cel id6 (Zac (Z1.set a2 a0.to_ true)),.cel id1 (ZP a0_.Topo),.lp (List.length a4) (lcOf Try.prog i78.nt [21,22] ZcQ ZcO) [(2,.ptr id1 0),(5,.ptr id6 0),(6,.ptr id8 0),(7,.ptr a1 0)] .busy]:=hH
   refine rgS ⟨[(7,.ptr a1 0)],[],ao⟩ (ZO.o 2 (Zam (H:=aD) (v:=iv a0.to_) (hw:=aX)) ZO.f) kr (tq ?_)
   have au:=Fp.get hH 0 rfl
   obtain ⟨bf,aW,hH⟩:=Fp.setCell (k:=0) (off:=0) (cs:=[iv a3]) (vs:=[iv (w64 (a3+1))]) (cs':=[iv (w64 (a3+1))]) hH rfl kr
   replace hH:Fp _ _ _ [.cel a1 [iv (w64 (a3+1))],.cel id8 [iv a0.to_],.cel id6 (Zac (Z1.set a2 a0.to_ true)),.cel id1 (ZP a0_.Topo),.lp (List.length a4) (lcOf Try.prog i78.nt [21,22] ZcQ ZcO) [(2,.ptr id1 0),(5,.ptr id6 0),(6,.ptr id8 0),(7,.ptr a1 0)] .busy]:=hH
   refine rgS ⟨[],[],bf⟩ (ZO.u 0 (ZW (H:=ao) (id:=a1) (off:=0) (cs:=[iv a3]) (c:=[iv a3]) (r:=iv a3) (hl:=au)) (ZO.o 1 (Zam (H:=ao) (v:=iv (w64 (a3+1))) (hw:=aW)) ZO.f)) kr (bn ?_)
   cases h
   exact rbd (k:=4) (.ready) hH rfl rfl (λH6 hH=>⟨_,(Eq.refl _),(Fp.pick hH [0,1,2,3,4] rfl)⟩)
  refine ZeR (s:=⟨[(1,ZU false a1_),(2,.ptr id1 0),(5,.ptr id6 0),(6,.ptr id8 0),(7,.ptr a1 0),(20,.fn 91 [] [.ptr a9 0,.ptr a8 0])],[],a4⟩) [(2,.ptr id1 0),(5,.ptr id6 0),(6,.ptr id8 0),(7,.ptr a1 0)] (FrOK.cons kr kr (FrOK.cons kr kr (FrOK.cons kr kr (FrOK.cons kr kr FrOK.nil)))) kr (λH=>rfl) (capT:=[.cel a9 [ZU false aa.1],.cel a8 (ZP aa.2.Topo)]) (cells0:=[.cel a1 [iv 0],.cel id8 [iv 0],.cel id6 (Zac (Z1.mk false false false false false false false false false false false false)),.cel id1 (ZP a0_.Topo)]) (rest:=[]) (HP.now (HP.pick hH [0,1,2,3,4,5] rfl)) (λ(s:(Int×Int×Z1)×Nat) (its:List Zap)=>its=[.cel a1 [iv s.1.1],.cel id8 [iv s.1.2.1],.cel id6 (Zac s.1.2.2),.cel id1 (ZP a0_.Topo)]++[.lp (List.length a4) (lcOf Try.prog i78.nt [21,22] ZcQ ZcO) [(2,.ptr id1 0),(5,.ptr id6 0),(6,.ptr id8 0),(7,.ptr a1 0)] (stAt [.ready,.done (.exit 0)] s.2)]) ((0,0,(Z1.mk false false false false false false false false false false false false)),0) ab (by exact (Eq.refl _)) (λH its hT hH=>Zdt N (λ(s:(Int×Int×Z1)×Nat) (a7:Int) (a0:Zbk)=>Zfp (λv:Int×Int×Z1=>Zbv N a0_ v.1 v.2.1 v.2.2 a7 a0) s) aa.1 aa.2 ((0,0,(Z1.mk false false false false false false false false false false false false)),0) a9 a8 (List.length a4) (λ(s:(Int×Int×Z1)×Nat) (its:List Zap)=>its=[.cel a1 [iv s.1.1],.cel id8 [iv s.1.2.1],.cel id6 (Zac s.1.2.2),.cel id1 (ZP a0_.Topo)]++[.lp (List.length a4) (lcOf Try.prog i78.nt [21,22] ZcQ ZcO) [(2,.ptr id1 0),(5,.ptr id6 0),(6,.ptr id8 0),(7,.ptr a1 0)] (stAt [.ready,.done (.exit 0)] s.2)]) aq H its hT hH ab aJ) ?_
  rintro its hT
  obtain rfl:=hT
  refine ⟨_,_,rfl,?_⟩
  intro ad hF
  replace hH:HP _ [.cel a9 [ZU false aa.1],.cel a8 (ZP aa.2.Topo),.cel a1 [iv ab.1.1],.cel id8 [iv ab.1.2.1],.cel id6 (Zac ab.1.2.2),.cel id1 (ZP a0_.Topo)]:=HP.after (HP.pick hH [0,1,2,3,4,5] rfl) hF
  rcases Zau h with ⟨aM,h⟩|⟨_,h⟩
  ·refine Zho (S:=⟨[(1,ZU false a1_),(2,.ptr id1 0),(5,.ptr id6 0),(6,.ptr id8 0),(7,.ptr a1 0),(20,.fn 91 [] [.ptr a9 0,.ptr a8 0])],[],ad⟩) (e:=.normal) aM rfl (bn ?_)
   cases h
   exact ⟨rfl,⟨ad,kr,(HP.pick hH [2] rfl)⟩⟩
  rcases Zau h with ⟨aL,h⟩|⟨_,h⟩
  ·refine Zho (S:=⟨[(1,ZU false a1_),(2,.ptr id1 0),(5,.ptr id6 0),(6,.ptr id8 0),(7,.ptr a1 0),(20,.fn 91 [] [.ptr a9 0,.ptr a8 0])],[],ad⟩) (e:=(.exit 0)) aL rfl (bx ?_)
   cases h
   exact ⟨rfl,⟨ad,kr,(HP.pick hH [2] rfl)⟩⟩
  cases h
 clear aB
 rintro s hR
 obtain ⟨an,rfl,hH⟩:=hR
 replace hH:HP _ [.cel a1 [iv af]]:=hH
 refine sq ?_
 have ar:=HP.get hH 0 rfl
 refine rgS ⟨[(4,bv (af==((List.length a1_:Nat):Int)))],[],an⟩ (ZO.u 0 (ZW (H:=an) (id:=a1) (off:=0) (cs:=[iv af]) (c:=[iv af]) (r:=iv af) (hl:=ar)) (ZO.u 1 (Z0 (ys:=[ZU false a1_]) (h:=Z6 eI64)) ZO.f)) kr ?_
 replace hH:HP _ []:=HP.pick hH [] rfl
 refine tq (rt ?_)
 cases h
 exact Zab kr
theorem Zio (N:Nat)(a0_:ZaM)(a1_:ZaM)(r:Int×Int×Int)(h:ZfD N a0_ a1_=some r):PCall Try.prog 81 [.agg (ZbJ a0_),.agg (ZbJ a1_)] (.tup [iv r.1,iv r.2.1,iv r.2.2]):=by
 unfold ZfD at h
 have hH  := hp0
 refine Zal ZzI rfl rfl (Z5 _ _ _ ?_) rfl
 refine sq (rg ZO.f (tq (sq ?_)))
 obtain ⟨r1,hr1,h⟩:=bs h
 refine rg (ZO.v 4 (Z7 (hc:=Zgn N a0_.Period a1_.Period r1 hr1)) ZO.f) (tq (sq (rq ZO.f (tq (rt ?_)))))
 cases h
 exact Zab kr
theorem ZcA (N:Nat)(a0_:ZaD)(a1_:(List Int))(r:(List Int))(h:ZbT N a0_ a1_=some r):PCall Try.prog 87 [.agg (ZP a0_.Topo),ZU false a1_] (ZU false r):=by
 unfold ZbT at h
 have hH  := hp0
 refine Zal ZzC rfl rfl (Z5 _ _ _ ?_) rfl
 refine sq (rgS ⟨[(1,ZU false a1_),(2,.loc 2 0)],[(2,(ZP a0_.Topo))],[]⟩ ZO.f kr (tq (sq ?_)))
 obtain ⟨l3,hl3,h⟩:=bs h
 obtain ⟨a1,H2,ha1,hH2,ha1b,hH⟩:=HP.make eI64 hH hl3
 replace hH:HP _ [.arr a1 1 false (List.map eI64 l3)]:=hH
 have hfa1:=Za5 (HP.get hH 0 rfl)
 obtain ⟨id4,H5,hid4,hH5,hH⟩:=HP.newCell hH [ZU true []]
 replace hH:HP _ [.cel id4 [ZU true []],.arr a1 1 false (List.map eI64 l3)]:=hH
 obtain ⟨H6,hH6,hH⟩:=HP.setCell (k:=0) (off:=0) (cs:=[ZU true []]) (vs:=[a1]) (cs':=[a1]) hH rfl kr
 replace hH:HP _ [.cel id4 [a1],.arr a1 1 false (List.map eI64 l3)]:=hH
 refine rgS ⟨[(1,ZU false a1_),(2,.loc 2 0),(5,.ptr id4 0)],[(2,(ZP a0_.Topo))],H6⟩ (ZO.u 1 (Z0 (ys:=[ZU false a1_]) (h:=Z6 eI64)) (ZO.h 1 (Zgw (H:=[]) (zero:=[.int .i64 0]) (bytes:=8) kr kr kr ha1 hH2 ha1b) (ZO.h 0 (Zcz (H:=H2) kr hid4 hH5) (ZO.o 0 (ZdW (H:=H5) (v:=a1) (cs:=[a1]) (by cases hfa1<;>kernel_rfl) (by cases hfa1<;>kernel_rfl) (by cases hfa1<;>kernel_rfl) (by cases hfa1<;>kernel_rfl) (by cases hfa1<;>kernel_rfl) hH6) ZO.f)))) kr (tq (sq (sq ?_)))
 obtain ⟨r7,hr7,h⟩:=bs h
 obtain ⟨id9,ab,H8,hvr7,hpr7⟩:=Zeb N a0_ a1_ H6 r7 hr7
 replace hH:HP _ [.cel id9 [ZU false r7.1],.cel ab (ZP r7.2.Topo),.cel id4 [a1],.arr a1 1 false (List.map eI64 l3)]:=HP.callee (fp:=[]) (rest:=[.cel id4 [a1],.arr a1 1 false (List.map eI64 l3)]) hH hpr7
 refine rgS ⟨[(5,.ptr id4 0),(14,.fn 91 [] [.ptr id9 0,.ptr ab 0])],[],H8⟩ (ZO.v 2 (Zc7 (H:=H6) (ys:=[.agg (ZP a0_.Topo),ZU false a1_]) kr kr kr hvr7) ZO.f) kr (tq (bk ?_))
 obtain ⟨a9,ap,h⟩:=bs h
 have af:∀ (x13:Int) (x14:Zbk) (s:(List Int)) (r:((List Int))×Bool) (H:List HO) (its:List Zap),(λ(s:(List Int)) (its:List Zap)=>∃ (a3:AV),its=[.arr a3 1 false (List.map eI64 s),.cel id4 [a3]]++[.lp (List.length H8) (lcOf Try.prog i87.nt [15,16] ZcP ZcN) [(5,.ptr id4 0)] .ready]) s its->HP H its->(λ(s:(List Int)) (x13:Int) (x14:Zbk)=>Zd5 (λv:(List Int)=>Zbw N v x13 x14) s) s x13 x14=some r->∃ H' its',Zd4 Try.prog (List.length H8) [iv x13,.agg (ZaH x14)] H r.2 H'/\(λ(s:(List Int)) (its:List Zap)=>∃ (a3:AV),its=[.arr a3 1 false (List.map eI64 s),.cel id4 [a3]]++[.lp (List.length H8) (lcOf Try.prog i87.nt [15,16] ZcP ZcN) [(5,.ptr id4 0)] .ready]) r.1 its'/\Fp H H' its its':=by
  clear h
  intro x13 x14 s r an its hT hH h
  obtain ⟨q,hb,rfl⟩:=ZeQ h
  clear h
  obtain ⟨vs,rfl⟩:∃ v,v=s:=⟨s,rfl⟩
  obtain ⟨az,rfl⟩:∃ v,v=vs:=⟨vs,rfl⟩
  obtain ⟨a3,rfl⟩:=hT
  replace h:Zbw N az x13 x14=some q:=hb
  clear hb
  unfold Zbw at h
  replace hH:Fp _ _ _ [.arr a3 1 false (List.map eI64 az),.cel id4 [a3],.lp (List.length H8) (lcOf Try.prog i87.nt [15,16] ZcP ZcN) [(5,.ptr id4 0)] .ready]:=Fp.refl hH
  have a0:=Za5 (Fp.get hH 0 rfl)
  suffices hs:∃ H',Zd4 Try.prog (List.length H8) [iv x13,.agg (ZaH x14)] an true H'/\∃ its',(λ(s:(List Int)) (its:List Zap)=>∃ (a3:AV),its=[.arr a3 1 false (List.map eI64 s),.cel id4 [a3]]++[.lp (List.length H8) (lcOf Try.prog i87.nt [15,16] ZcP ZcN) [(5,.ptr id4 0)] .ready]) q its'/\Fp an H' [.arr a3 1 false (List.map eI64 az),.cel id4 [a3],.lp (List.length H8) (lcOf Try.prog i87.nt [15,16] ZcP ZcN) [(5,.ptr id4 0)] .ready] its' by
   obtain ⟨H',h1,its',h2,h3⟩:=hs
   exact ⟨H',its',h1,h2,h3⟩
  refine ZdV (id:=(List.length H8)) (args:=[iv x13,.agg (ZaH x14)]) (H:=an) (n:=i87.nt) (ps:=[15,16]) (fr0:=[(5,.ptr id4 0)]) (ia:=ZcP) (ib:=ZcN) true (λH'=>∃ its',(λ(s:(List Int)) (its:List Zap)=>∃ (a3:AV),its=[.arr a3 1 false (List.map eI64 s),.cel id4 [a3]]++[.lp (List.length H8) (lcOf Try.prog i87.nt [15,16] ZcP ZcN) [(5,.ptr id4 0)] .ready]) q its'/\Fp an H' [.arr a3 1 false (List.map eI64 az),.cel id4 [a3],.lp (List.length H8) (lcOf Try.prog i87.nt [15,16] ZcP ZcN) [(5,.ptr id4 0)] .ready] its') (Fp.get hH 2 rfl) rfl (by decide +kernel) rfl ?_
  show vc _ _ _ _ ⟨[(5,.ptr id4 0),(15,iv x13),(16,.agg (ZaH x14))],[],an⟩
  refine sq (rgS ⟨[(5,.ptr id4 0),(6,iv x13),(16,.agg (ZaH x14))],[],an⟩ ZO.f kr (tq (rgS ⟨[(5,.ptr id4 0),(6,iv x13),(7,.loc 7 0)],[(7,(ZaH x14))],an⟩ ZO.f kr (ZgH (k:=2) hH rfl ?_))))
  intro ae hH
  replace hH:Fp _ _ _ [.arr a3 1 false (List.map eI64 az),.cel id4 [a3],.lp (List.length H8) (lcOf Try.prog i87.nt [15,16] ZcP ZcN) [(5,.ptr id4 0)] .busy]:=hH
  show vc _ _ _ _ ⟨[(5,.ptr id4 0),(6,iv x13),(7,.loc 7 0)],[(7,(ZaH x14))],ae⟩
  refine bk ?_
  obtain ⟨am,ad,h⟩:=bs h
  refine Zd6 [5,7] (λs=>∃ (a4:AV) (aa:List HO),s=⟨[(5,.ptr id4 0),(7,.loc 7 0)],[(7,(ZaH x14))],aa⟩/\Fp an aa [.arr a3 1 false (List.map eI64 az),.cel id4 [a3],.lp (List.length H8) (lcOf Try.prog i87.nt [15,16] ZcP ZcN) [(5,.ptr id4 0)] .ready] [.arr a4 1 false (List.map eI64 am),.cel id4 [a4],.lp (List.length H8) (lcOf Try.prog i87.nt [15,16] ZcP ZcN) [(5,.ptr id4 0)] .busy]) ?_ ?_
  ·clear h
   have h:=ad
   refine sq (rgS ⟨[(5,.ptr id4 0),(7,.loc 7 0),(18,bv (x13==0))],[(7,(ZaH x14))],ae⟩ ZO.f kr (tq (it h (λau h=>?_) (λau h=>?_))))
   ·have aj:=Fp.get hH 1 rfl
    obtain ⟨al,ar,h⟩:=bs h
    obtain ⟨a8,aC,aw,hH⟩:=Fp.app (k:=0) (a:=a3) (sz:=1) (frz:=false) eI64 hH rfl ar
    replace hH:Fp _ _ _ [.arr a8 1 false (List.map eI64 al),.cel id4 [a3],.lp (List.length H8) (lcOf Try.prog i87.nt [15,16] ZcP ZcN) [(5,.ptr id4 0)] .busy]:=hH
    have a6:=Za5 (Fp.get hH 0 rfl)
    obtain ⟨ao,ay,hH⟩:=Fp.setCell (k:=1) (off:=0) (cs:=[a3]) (vs:=[a8]) (cs':=[a8]) hH rfl kr
    replace hH:Fp _ _ _ [.arr a8 1 false (List.map eI64 al),.cel id4 [a8],.lp (List.length H8) (lcOf Try.prog i87.nt [15,16] ZcP ZcN) [(5,.ptr id4 0)] .busy]:=hH
    refine rgS ⟨[(5,.ptr id4 0),(7,.loc 7 0)],[(7,(ZaH x14))],ao⟩ (ZO.u 0 (ZW (H:=ae) (id:=id4) (off:=0) (cs:=[a3]) (c:=[a3]) (r:=a3) (by cases a0<;>kernel_rfl) (by cases a0<;>kernel_rfl) aj (by cases a0<;>kernel_rfl) (by cases a0<;>kernel_rfl) (by cases a0<;>kernel_rfl)) (ZO.h 3 (ZhC (H:=ae) (a:=a3) (b:=ZU true [x14.from_]) (by cases a0<;>kernel_rfl) (by cases a0<;>kernel_rfl) (by cases a0<;>kernel_rfl) (by cases a0<;>kernel_rfl) aw) (ZO.o 0 (ZdW (H:=aC) (v:=a8) (cs:=[a8]) (by cases a6<;>kernel_rfl) (by cases a6<;>kernel_rfl) (by cases a6<;>kernel_rfl) (by cases a6<;>kernel_rfl) (by cases a6<;>kernel_rfl) ay) ZO.f))) kr ?_
    cases h
    exact ⟨rfl,⟨a8,ao,kr,(Fp.pick hH [0,1,2] rfl)⟩⟩
   refine sk ?_
   cases h
   exact ⟨rfl,⟨a3,ae,kr,(Fp.pick hH [0,1,2] rfl)⟩⟩
  clear ad
  rintro s hR
  obtain ⟨a4,aa,rfl,hH⟩:=hR
  replace hH:Fp _ _ _ [.arr a4 1 false (List.map eI64 am),.cel id4 [a4],.lp (List.length H8) (lcOf Try.prog i87.nt [15,16] ZcP ZcN) [(5,.ptr id4 0)] .busy]:=hH
  have a2:=Za5 (Fp.get hH 0 rfl)
  have ai:=Fp.get hH 1 rfl
  obtain ⟨ak,aq,h⟩:=bs h
  obtain ⟨a7,aB,av,hH⟩:=Fp.app (k:=0) (a:=a4) (sz:=1) (frz:=false) eI64 hH rfl aq
  replace hH:Fp _ _ _ [.arr a7 1 false (List.map eI64 ak),.cel id4 [a4],.lp (List.length H8) (lcOf Try.prog i87.nt [15,16] ZcP ZcN) [(5,.ptr id4 0)] .busy]:=hH
  have a5:=Za5 (Fp.get hH 0 rfl)
  obtain ⟨aA,ax,hH⟩:=Fp.setCell (k:=1) (off:=0) (cs:=[a4]) (vs:=[a7]) (cs':=[a7]) hH rfl kr
  replace hH:Fp _ _ _ [.arr a7 1 false (List.map eI64 ak),.cel id4 [a7],.lp (List.length H8) (lcOf Try.prog i87.nt [15,16] ZcP ZcN) [(5,.ptr id4 0)] .busy]:=hH
  refine rgS ⟨[],[],aA⟩ (ZO.u 0 (ZW (H:=aa) (id:=id4) (off:=0) (cs:=[a4]) (c:=[a4]) (r:=a4) (by cases a2<;>kernel_rfl) (by cases a2<;>kernel_rfl) ai (by cases a2<;>kernel_rfl) (by cases a2<;>kernel_rfl) (by cases a2<;>kernel_rfl)) (ZO.h 3 (ZhC (H:=aa) (a:=a4) (b:=ZU true [x14.to_]) (by cases a2<;>kernel_rfl) (by cases a2<;>kernel_rfl) (by cases a2<;>kernel_rfl) (by cases a2<;>kernel_rfl) av) (ZO.o 0 (ZdW (H:=aB) (v:=a7) (cs:=[a7]) (by cases a5<;>kernel_rfl) (by cases a5<;>kernel_rfl) (by cases a5<;>kernel_rfl) (by cases a5<;>kernel_rfl) (by cases a5<;>kernel_rfl) ax) ZO.f))) kr (bn ?_)
  cases h
  exact rbd (k:=2) (.ready) hH rfl rfl (λH6 hH=>⟨_,⟨a7,Eq.refl _⟩,(Fp.pick hH [0,1,2] rfl)⟩)
 refine ZeR (s:=⟨[(5,.ptr id4 0),(14,.fn 91 [] [.ptr id9 0,.ptr ab 0])],[],H8⟩) [(5,.ptr id4 0)] (FrOK.cons kr kr FrOK.nil) kr (λH=>rfl) (capT:=[.cel id9 [ZU false r7.1],.cel ab (ZP r7.2.Topo)]) (cells0:=[.arr a1 1 false (List.map eI64 l3),.cel id4 [a1]]) (rest:=[]) (HP.now (HP.pick hH [0,1,3,2] rfl)) (λ(s:(List Int)) (its:List Zap)=>∃ (a3:AV),its=[.arr a3 1 false (List.map eI64 s),.cel id4 [a3]]++[.lp (List.length H8) (lcOf Try.prog i87.nt [15,16] ZcP ZcN) [(5,.ptr id4 0)] .ready]) l3 a9 (by exact ⟨a1,Eq.refl _⟩) (λH its hT hH=>Zdt N (λ(s:(List Int)) (x13:Int) (x14:Zbk)=>Zd5 (λv:(List Int)=>Zbw N v x13 x14) s) r7.1 r7.2 l3 id9 ab (List.length H8) (λ(s:(List Int)) (its:List Zap)=>∃ (a3:AV),its=[.arr a3 1 false (List.map eI64 s),.cel id4 [a3]]++[.lp (List.length H8) (lcOf Try.prog i87.nt [15,16] ZcP ZcN) [(5,.ptr id4 0)] .ready]) af H its hT hH a9 ap) ?_
 rintro its hT
 obtain ⟨a3,rfl⟩:=hT
 refine ⟨_,_,rfl,?_⟩
 intro ac hF
 replace hH:HP _ [.cel id9 [ZU false r7.1],.cel ab (ZP r7.2.Topo),.arr a3 1 false (List.map eI64 a9),.cel id4 [a3]]:=HP.after (HP.pick hH [0,1,3,2] rfl) hF
 have a0:=Za5 (HP.get hH 2 rfl)
 refine Zf0 (S:=⟨[(5,.ptr id4 0),(14,.fn 91 [] [.ptr id9 0,.ptr ab 0])],[],ac⟩) (bn (tq (kq ?_)))
 replace hH:HP _ [.arr a3 1 false (List.map eI64 a9),.cel id4 [a3]]:=HP.pick hH [2,3] rfl
 refine sq ?_
 have ag:=HP.get hH 1 rfl
 refine rgS ⟨[(4,a3)],[],ac⟩ (ZO.u 0 (ZW (H:=ac) (id:=id4) (off:=0) (cs:=[a3]) (c:=[a3]) (r:=a3) (by cases a0<;>kernel_rfl) (by cases a0<;>kernel_rfl) ag (by cases a0<;>kernel_rfl) (by cases a0<;>kernel_rfl) (by cases a0<;>kernel_rfl)) ZO.f) (by cases a0<;>kernel_rfl) ?_
 replace hH:HP _ [.arr a3 1 false (List.map eI64 a9)]:=HP.pick hH [0] rfl
 refine tq (rt ?_)
 obtain rfl:=Zaa h
 exact Zb8 (H:=ac) (ys:=[a3]) (xs:=[.p (.sl 1 false (List.map eI64 a9))]) (by cases a0<;>kernel_rfl) (by cases a0<;>kernel_rfl) (ZaA (HP.pure (k:=0) (frz:=false) eI64 hH rfl).2 Za3) kr
theorem ZdX (N:Nat)(a0_:(List Int))(a1_:Int)(r:Bool)(h:ZbH N a0_ a1_=some r):PCall Try.prog 88 [ZU false a0_,iv a1_] (bv r):=by
 unfold ZbH at h
 have hH  := hp0
 refine Zal ZzB rfl rfl (Z5 _ _ _ ?_) rfl
 refine sq (rg ZO.f (tq (sq ?_)))
 obtain ⟨r1,hr1,h⟩:=bs h
 refine rg (ZO.v 2 (Z7 (hc:=ZeC N a0_ a1_ r1 hr1)) ZO.f) (tq (rt ?_))
 cases h
 exact Zab kr
theorem ZhR (N:Nat)(a0_:ZaD)(c0_:(List Int))(k0_:Nat)(H:List HO)(hH:HP H [.cel k0_ [ZU false c0_]])(r:(List Int)×Int)(h:ZdF N a0_ c0_=some r):Za4 Try.prog 90 [.agg (ZP a0_.Topo),.ptr k0_ 0] H (.tup [ZU false r.1,iv r.2]) H:=by
 unfold ZdF at h
 refine Zbf Zzz rfl rfl rfl (Z5 _ _ _ (sq (rg ZO.f (tq (sq ?_)))))
 have hlc1:=HP.get hH 0 rfl
 obtain ⟨r2,hr2,h⟩:=bs h
 refine rg (ZO.u 1 (ZW (H:=H) (id:=k0_) (off:=0) (cs:=[ZU false c0_]) (c:=[ZU false c0_]) (r:=ZU false c0_) (hl:=hlc1)) (ZO.v 0 (Z7 (hc:=ZcA N a0_ c0_ r2 hr2)) ZO.f)) ?_
 replace hH:HP _ []:=HP.pick hH [] rfl
 refine tq (rt ?_)
 cases h
 exact Za0 kr kr
theorem Zif (N:Nat)(a0_:Zah)(a1_:Int)(a2_:Int)(r:Bool)(h:Zfu N a0_ a1_ a2_=some r):PCall Try.prog 19 [.agg (ZaN a0_),iv a1_,iv a2_] (bv r):=by
 unfold Zfu at h
 have hH  := hp0
 refine Zal ZAI rfl rfl (Z5 _ _ _ ?_) rfl
 refine sq (rg ZO.f (tq (sq ?_)))
 obtain ⟨r1,hr1,h⟩:=bs h
 refine rg (ZO.v 2 (Z7 (hc:=ZjK N a0_ a1_ r1 hr1)) ZO.f) (tq (sq (sq (rg ZO.f (tq (it h (λhc2 h=>?_) (λhc2 h=>?_)))))))
 ·refine sq (rg ZO.f (tq (rt (tr ?_))))
  cases h
  exact Zab kr
 refine sk (tq (kq (sq ?_)))
 obtain ⟨r3,hr3,h⟩:=bs h
 refine rg (ZO.v 2 (Z7 (hc:=ZjJ N a0_ a1_ r3 hr3)) ZO.f) (tq (sq (rgX ⟨[(6,bv ((r3.2 != 0)||(decide (r3.1≥(w64 (a1_+a2_))))))],[],[]⟩ ?_ ?_)))
 ·rcases Bool.eq_false_or_eq_true (r3.2 != 0) with hc4|hc5
  ·exact (EP.u 1 (ZX (c:=(r3.2 != 0)) (h:=hc4)) (EP.f (by simp only [hc4];kernel_rfl)))
  exact (EP.u 1 (ZX (c:=(r3.2 != 0)) (h:=hc5)) (EP.f (by simp only [hc5];kernel_rfl)))
 refine tq (rt ?_)
 cases h
 exact Zab kr
theorem ZhU (N:Nat)(a0_:(List ZaM))(r:Int×Int)(h:Ze3 N a0_=some r):PCall Try.prog 40 [ZaW false a0_] (.tup [iv r.1,iv r.2]):=by
 unfold Ze3 at h
 have hH  := hp0
 refine Zal ZAn rfl rfl (Z5 _ _ _ ?_) rfl
 refine sq (rg ZO.f (tq (sq (sq ?_))))
 obtain ⟨r1,hr1,h⟩:=bs h
 refine rg (ZO.v 1 (Z7 (hc:=ZgA N a0_ r1 hr1)) ZO.f) (tq (sq (rg ZO.f (tq (it h (λhc2 h=>?_) (λhc2 h=>?_))))))
 ·refine sq (rg ZO.f (tq (rt (tr ?_))))
  cases h
  exact Zab kr
 refine sk (tq (kq (sq ?_)))
 obtain ⟨l5,hl5,h⟩:=bs h
 obtain ⟨a3,H4,ha3,hH4,ha3b,hH⟩:=HP.make eI64 hH hl5
 replace hH:HP _ [.arr a3 1 false (List.map eI64 l5)]:=hH
 have hfa3:=Za5 (HP.get hH 0 rfl)
 refine rgS ⟨[(0,ZaW false a0_),(5,a3)],[],H4⟩ (ZO.u 1 (Z0 (ys:=[ZaW false a0_]) (h:=Z6 ZaY)) (ZO.h 0 (Zgw (H:=[]) (zero:=[.int .i64 0]) (bytes:=8) kr kr kr ha3 hH4 ha3b) ZO.f)) (by cases hfa3<;>kernel_rfl) (tq (sq (sq (rgS ⟨[(5,a3),(17,ZaW false a0_),(18,iv ((List.length a0_:Nat):Int)),(19,iv 0)],[],H4⟩ (ZO.u 1 (Z0 (ys:=[ZaW false a0_]) (h:=Z6 ZaY)) ZO.f) (by cases hfa3<;>kernel_rfl) (tq (bk ?_))))))
 obtain ⟨a4,ab,h⟩:=bs h
 refine ZaG ((Zat (λ(x:Int×(List Int)) s=>∃ (a6:AV) (H7:List HO),s=⟨[(5,a6),(17,ZaW false a0_),(18,iv ((List.length a0_:Nat):Int)),(19,iv x.1)],[],H7⟩/\HP H7 [.arr a6 1 false (List.map eI64 x.2)]) (λx:Int×(List Int)=>Zcw N a0_ x.1 x.2) (λ(p:(List Int)) e s=>e=.exit 0/\(∃ (a1:AV) (aa:List HO),s=⟨[(5,a1)],[],aa⟩/\HP aa [.arr a1 1 false (List.map eI64 p)])) ?_ N _ a4 _ ab ⟨a3,H4,(by show _=_;cases hfa3<;>kernel_rfl),(HP.pick hH [0] rfl)⟩).mono ?_)
 ·clear h ab
  rintro ⟨i8,l9⟩ o s h hR
  obtain ⟨a6,H7,rfl,hH⟩:=hR
  replace hH:HP _ [.arr a6 1 false (List.map eI64 l9)]:=hH
  have hfa6:=Za5 (HP.get hH 0 rfl)
  replace h:Zcw N a0_ i8 l9=some o:=h
  unfold Zcw at h
  refine sq (rgS ⟨[(5,a6),(17,ZaW false a0_),(18,iv ((List.length a0_:Nat):Int)),(19,iv i8),(20,bv (decide (i8<((List.length a0_:Nat):Int))))],[],H7⟩ ZO.f (by cases hfa6<;>kernel_rfl) (tq (sq (it h (λak h=>?_) (λak h=>?_)))))
  ·refine sk (tq (kq (sq (bk (sq ?_)))))
   obtain ⟨a0,ad,h⟩:=bs h
   refine rgS ⟨[(5,a6),(6,iv i8),(7,.loc 7 0),(17,ZaW false a0_),(18,iv ((List.length a0_:Nat):Int)),(19,iv i8)],[(7,(ZbJ a0))],H7⟩ (ZO.u 1 (Z0 (ys:=[ZaW false a0_,iv i8]) (h:=ZY ZaY ad)) (ZO.u 0 (Zae (sz:=3) (off:=0) (cs:=[.int .i64 a0.Period,.int .i64 a0.From,.int .i64 a0.Long]) (r:=.agg (ZbJ a0)) ZaY ad) (ZO.f (h:=(by cases hfa6<;>kernel_rfl))))) (by cases hfa6<;>kernel_rfl) (tq ?_)
   obtain ⟨aq,ac,h⟩:=bs h
   obtain ⟨ap,am,_,a8,ae,a9,a7⟩:=HP.elem (k:=0) (a:=a6) (sz:=1) (frz:=false) eI64 hH rfl ac
   obtain ⟨af,al,hH⟩:=HP.setRow (k:=0) (off:=0) (cs:=[iv a0.Period]) (ps:=[.int .i64 a0.Period]) (e':=a0.Period) eI64 hH rfl a9 ae (a8 rfl) ac kr kr
   replace hH:HP _ [.arr a6 1 false (List.map eI64 (List.set l9 (Int.toNat i8) a0.Period))]:=hH
   refine rgS ⟨[(5,a6),(17,ZaW false a0_),(18,iv ((List.length a0_:Nat):Int)),(19,iv i8)],[],af⟩ (ZO.u 4 (Z0 (ys:=[a6,iv i8]) (by cases hfa6<;>kernel_rfl) (a7 .i64)) (ZO.o 0 (Zam (H:=H7) (v:=iv a0.Period) (hw:=al)) ZO.f)) (by cases hfa6<;>kernel_rfl) (bn (tq (rgS ⟨[(5,a6),(17,ZaW false a0_),(18,iv ((List.length a0_:Nat):Int)),(19,iv (w64 (i8+1)))],[],af⟩ ZO.f (by cases hfa6<;>kernel_rfl) ?_)))
   cases h
   exact ⟨_,rfl,⟨a6,af,(by show _=_;cases hfa6<;>kernel_rfl),(HP.pick hH [0] rfl)⟩⟩
  refine kq (xq (tx ?_))
  cases h
  exact ⟨_,rfl,rfl,⟨a6,H7,(by show _=_;cases hfa6<;>kernel_rfl),(HP.pick hH [0] rfl)⟩⟩
 rintro e s hq
 obtain ⟨rfl,hR⟩:=hq
 obtain ⟨a1,aa,rfl,hH⟩:=hR
 replace hH:HP _ [.arr a1 1 false (List.map eI64 a4)]:=hH
 have a2:=Za5 (HP.get hH 0 rfl)
 refine bx (tq (sq ?_))
 obtain ⟨ag,ai,h⟩:=bs h
 obtain ⟨ao,an,a5,hH⟩:=HP.frz (k:=0) (a:=a1) (sz:=1) (frz:=false) eI64 hH rfl
 replace hH:HP _ [.arr a1 1 true (List.map eI64 a4)]:=hH
 refine rgS ⟨[(8,iv ag)],[],ao⟩ (ZO.v 1 (Zh0 (H:=aa) (ys:=[iv 960,a1]) (by cases a2<;>kernel_rfl) (by cases a2<;>kernel_rfl) (ZeN rfl (ZeN a5 Zh4)) (Zip N 960 a4 ag ai)) ZO.f) kr ?_
 replace hH:HP _ []:=HP.pick hH [] rfl
 refine tq (sq (sq (rg ZO.f (tq (it h (λaj h=>?_) (λaj h=>?_))))))
 ·refine sq (rg ZO.f (tq (rt (tr ?_))))
  cases h
  exact Zab kr
 refine sk (tq (kq (sq (rg ZO.f (tq (rt ?_))))))
 cases h
 exact Zab kr
theorem Zjq (N:Nat)(a0_:Z8)(r:Bool)(h:Zg3 N a0_=some r):PCall Try.prog 47 [.agg (ZP a0_)] (bv r):=by
 unfold Zg3 at h
 have hH  := hp0
 refine Zal ZAg rfl rfl (Z5 _ _ _ ?_) rfl
 refine sq ?_
 obtain ⟨id1,H2,hid1,hH2,hH⟩:=HP.newCell hH (ZP a0_)
 replace hH:HP _ [.cel id1 (ZP a0_)]:=hH
 refine rg (ZO.h 0 (Zbb (H:=[]) (v:=.agg (ZP a0_)) (hid:=hid1) (hH:=hH2)) ZO.f) (tq (sq (rg ZO.f (tq (sq (sq ?_))))))
 have hlc3:=HP.get hH 0 rfl
 refine rg (ZO.u 1 (ZW (H:=H2) (id:=id1) (off:=2) (cs:=(ZP a0_)) (c:=[ZZ false a0_.Links]) (r:=ZZ false a0_.Links) (hl:=hlc3)) (ZO.u 0 (Z0 (ys:=[ZZ false a0_.Links]) (h:=Z6 ZaB)) ZO.f)) (tq (bk ?_))
 obtain ⟨a5,a0,h⟩:=bs h
 refine ZaG ((Zat (λ(x:Int) s=>s=⟨[(3,.loc 3 0),(14,iv ((List.length a0_.Links:Nat):Int)),(15,iv x)],[(3,[.fn 68 [] [.ptr id1 0],.fn 70 [] [.ptr id1 0],.fn 71 [] [.ptr id1 0],.fn 72 [] [.ptr id1 0]])],H2⟩) (λx:Int=>Zdx N a0_ x) (λ(p:(Unit)⊕(Bool)) e s=>match p with|(.inl p)=>e=.exit 0/\(s=⟨[],[],H2⟩)|(.inr p)=>e=.ret/\∃ xs,resL s i47.res=some xs/\Zbd xs=bv p) ?_ N _ a5 _ a0 kr).mono ?_)
 ·clear h a0
  rintro i4 o s h hR
  obtain rfl:=hR
  replace h:Zdx N a0_ i4=some o:=h
  unfold Zdx at h
  refine sq (rg ZO.f (tq (sq (it h (λae h=>?_) (λae h=>?_)))))
  ·refine sk (tq (kq (sq (bk (sq (rg ZO.f (tq (sq (rg ZO.f (tq (bk (ZjY 18 (ZbX (sq (rg ZO.f (tq (sq (Zdk kr (sk (tq (kq (sq (bk (sq (rg ZO.f (tq (sq ?_)))))))))))))))))))))))))))
   obtain ⟨aj,a9,h⟩:=bs h
   have a4:=(Zie N i4 a0_ id1 H2 (HP.now (HP.pick hH [0] rfl)) aj a9)
   refine rg (ZO.v 2 (ZbF (H:=H2) (fv:=.fn 68 [] [.ptr id1 0]) (ys:=[iv i4]) (hc:=Zd1.of kr a4)) ZO.f) (tq (it h (λad h=>?_) (λad h=>?_)))
   ·refine sq (rg ZO.f ?_)
    replace hH:HP _ []:=HP.pick hH [] rfl
    refine tq (rt (br (tr (tr (br (br (tr ?_)))))))
    cases h
    exact ⟨_,rfl,rfl,Zab kr⟩
   refine sk (bn (tq (kq (rg ZO.f (tq (ZbX (sq (rg ZO.f (tq (sq (Zdk kr (sk (tq (kq (sq (bk (sq (rg ZO.f (tq (sq ?_))))))))))))))))))))
   obtain ⟨ai,a8,h⟩:=bs h
   have a3:=(Zid N i4 a0_ id1 H2 (HP.now (HP.pick hH [0] rfl)) ai a8)
   refine rg (ZO.v 2 (ZbF (H:=H2) (fv:=.fn 70 [] [.ptr id1 0]) (ys:=[iv i4]) (hc:=Zd1.of kr a3)) ZO.f) (tq (it h (λac h=>?_) (λac h=>?_)))
   ·refine sq (rg ZO.f ?_)
    replace hH:HP _ []:=HP.pick hH [] rfl
    refine tq (rt (br (tr (tr (br (br (tr ?_)))))))
    cases h
    exact ⟨_,rfl,rfl,Zab kr⟩
   refine sk (bn (tq (kq (rg ZO.f (tq (ZbX (sq (rg ZO.f (tq (sq (Zdk kr (sk (tq (kq (sq (bk (sq (rg ZO.f (tq (sq ?_))))))))))))))))))))
   obtain ⟨ag,a7,h⟩:=bs h
   have a2:=(Zic N i4 a0_ id1 H2 (HP.now (HP.pick hH [0] rfl)) ag a7)
   refine rg (ZO.v 2 (ZbF (H:=H2) (fv:=.fn 71 [] [.ptr id1 0]) (ys:=[iv i4]) (hc:=Zd1.of kr a2)) ZO.f) (tq (it h (λab h=>?_) (λab h=>?_)))
   ·refine sq (rg ZO.f ?_)
    replace hH:HP _ []:=HP.pick hH [] rfl
    refine tq (rt (br (tr (tr (br (br (tr ?_)))))))
    cases h
    exact ⟨_,rfl,rfl,Zab kr⟩
   refine sk (bn (tq (kq (rg ZO.f (tq (ZbX (sq (rg ZO.f (tq (sq (Zdk kr (sk (tq (kq (sq (bk (sq (rg ZO.f (tq (sq ?_))))))))))))))))))))
   obtain ⟨af,a6,h⟩:=bs h
   have a1:=(Zib N i4 a0_ id1 H2 (HP.now (HP.pick hH [0] rfl)) af a6)
   refine rg (ZO.v 2 (ZbF (H:=H2) (fv:=.fn 72 [] [.ptr id1 0]) (ys:=[iv i4]) (hc:=Zd1.of kr a1)) ZO.f) (tq (it h (λaa h=>?_) (λaa h=>?_)))
   ·refine sq (rg ZO.f ?_)
    replace hH:HP _ []:=HP.pick hH [] rfl
    refine tq (rt (br (tr (tr (br (br (tr ?_)))))))
    cases h
    exact ⟨_,rfl,rfl,Zab kr⟩
   refine sk (bn (tq (kq (rg ZO.f (tq (ZbX (sq (rg ZO.f (tq (sq (Zk1 kr (kq (xq (tx (tx (bx (bn (tq (rg ZO.f ?_)))))))))))))))))))
   cases h
   exact ⟨_,rfl,kr⟩
  refine kq ?_
  replace hH:HP _ []:=HP.pick hH [] rfl
  refine xq (tx ?_)
  cases h
  exact ⟨_,rfl,rfl,kr⟩
 rintro e s hq
 rcases a5 with al|ak
 ·dsimp only at h hq
  obtain ⟨rfl,hR⟩:=hq
  obtain rfl:=hR
  replace hH:HP _ []:=HP.pick hH [] rfl
  refine bx (tq (sq (rg ZO.f (tq (rt ?_)))))
  cases h
  exact Zab kr
 dsimp only at h hq
 obtain ⟨rfl,hq⟩:=hq
 refine br (tr ?_)
 cases h
 exact hq
theorem Zg9 (N:Nat)(c0_:Z9)(k0_:Nat)(H:List HO)(hH:HP H [.cel k0_ (ZV c0_)])(r:Bool)(h:Zer N c0_=some r):Za4 Try.prog 55 [.ptr k0_ 0] H (bv r) H:=by
 unfold Zer at h
 refine Zbf Zz8 rfl rfl rfl (Z5 _ _ _ (sq (rg ZO.f (tq (sq (sq ?_))))))
 have hlc1:=HP.get hH 0 rfl
 refine rg (ZO.u 1 (ZW (H:=H) (id:=k0_) (off:=3) (cs:=(ZV c0_)) (c:=[iv c0_.Class]) (r:=iv c0_.Class) (hl:=hlc1)) ZO.f) (tq (bk (sq (rg ZO.f (tq (it h (λhc2 h=>?_) (λhc2 h=>?_)))))))
 ·refine sq ?_
  obtain ⟨j8,hj,h⟩:=bs h
  refine rgR (λs=>s=⟨[(1,bv j8)],[],H⟩) ?_ ?_
  ·clear h
   have hlc3:=HP.get hH 0 rfl
   refine (EP.u 1 (ZW (H:=H) (id:=k0_) (off:=5) (cs:=(ZV c0_)) (c:=[iv c0_.Period]) (r:=iv c0_.Period) (hl:=hlc3)) ?_)
   obtain ⟨r4,hr4,hj⟩:=bs hj
   rcases Zau hj with ⟨hc5,hj⟩|⟨hc7,hj⟩
   ·refine (EP.h 0 (Zb3 kr (ZaK N c0_.Period 1 240 r4 hr4) hc5) ?_)
    have hlc6:=HP.get hH 0 rfl
    obtain rfl:=Zaa hj
    exact (EP.u 2 (ZW (H:=H) (id:=k0_) (off:=6) (cs:=(ZV c0_)) (c:=(Zdi c0_.Bucket)) (r:=.agg (Zdi c0_.Bucket)) (hl:=hlc6)) (EP.f kr))
   obtain rfl:=Zaa hj
   exact (EP.h 0 (Zb3 kr (ZaK N c0_.Period 1 240 r4 hr4) hc7) (EP.f kr))
  clear hj
  rintro s hR
  obtain rfl:=hR
  refine tq (rt (br (tr ?_)))
  cases h
  exact Za0 kr kr
 refine sq (rg ZO.f (tq (it h (λhc9 h=>?_) (λhc9 h=>?_))))
 ·refine sq ?_
  obtain ⟨aa,hj,h⟩:=bs h
  refine rgR (λs=>s=⟨[(1,bv aa)],[],H⟩) ?_ ?_
  ·clear h
   have a3:=HP.get hH 0 rfl
   refine (EP.u 1 (ZW (H:=H) (id:=k0_) (off:=5) (cs:=(ZV c0_)) (c:=[iv c0_.Period]) (r:=iv c0_.Period) (hl:=a3)) ?_)
   rcases Zau hj with ⟨a9,hj⟩|⟨a6,hj⟩
   ·refine (EP.u 0 (ZX (c:=(c0_.Period==0)) (h:=a9)) ?_)
    have a2:=HP.get hH 0 rfl
    refine (EP.u 2 (ZW (H:=H) (id:=k0_) (off:=6) (cs:=(ZV c0_)) (c:=(Zdi c0_.Bucket)) (r:=.agg (Zdi c0_.Bucket)) (hl:=a2)) ?_)
    obtain ⟨a4,a5,hj⟩:=bs hj
    refine (EP.v 0 (Z7 (hc:=ZiQ N c0_.Bucket a4 a5)) ?_)
    rcases Zau hj with ⟨a8,hj⟩|⟨a7,hj⟩
    ·refine (EP.u 0 (ZX (c:=(a4==0)) (h:=a8)) ?_)
     have a1:=HP.get hH 0 rfl
     refine (EP.u 4 (ZW (H:=H) (id:=k0_) (off:=6) (cs:=(ZV c0_)) (c:=[iv c0_.Bucket.Burst]) (r:=iv c0_.Bucket.Burst) (hl:=a1)) ?_)
     have a0:=HP.get hH 0 rfl
     obtain rfl:=Zaa hj
     exact (EP.u 1 (ZW (H:=H) (id:=k0_) (off:=4) (cs:=(ZV c0_)) (c:=[iv c0_.Size]) (r:=iv c0_.Size) (hl:=a0)) (EP.f kr))
    obtain rfl:=Zaa hj
    exact (EP.u 0 (ZX (c:=(a4==0)) (h:=a7)) (EP.f kr))
   obtain rfl:=Zaa hj
   exact (EP.u 0 (ZX (c:=(c0_.Period==0)) (h:=a6)) (EP.f kr))
  clear hj
  rintro s hR
  obtain rfl:=hR
  refine tq (rt (br (tr ?_)))
  cases h
  exact Za0 kr kr
 refine sk (bn (tq (kq ?_)))
 replace hH:HP _ []:=HP.pick hH [] rfl
 refine sq (rg ZO.f (tq (rt ?_)))
 cases h
 exact Za0 kr kr
theorem ZhT (N:Nat)(a0_:ZaM)(a1_:ZaM)(r:Bool)(h:Ze2 N a0_ a1_=some r):PCall Try.prog 64 [.agg (ZbJ a0_),.agg (ZbJ a1_)] (bv r):=by
 unfold Ze2 at h
 have hH  := hp0
 refine Zal ZzZ rfl rfl (Z5 _ _ _ ?_) rfl
 refine sq (rg ZO.f (tq (sq (sq (rg ZO.f (tq (it h (λhc1 h=>?_) (λhc1 h=>?_))))))))
 ·refine sq (rg ZO.f (tq (rt (tr ?_))))
  cases h
  exact Zab kr
 refine sk (tq (kq (sq ?_)))
 obtain ⟨r2,hr2,h⟩:=bs h
 refine rg (ZO.v 2 (Z7 (hc:=Zio N a0_ a1_ r2 hr2)) ZO.f) (tq (sq ?_))
 obtain ⟨r3,hr3,h⟩:=bs h
 refine rg (ZO.v 6 (Z7 (hc:=Zi0 N (w64 (a1_.From-a0_.From)) r2.2.2 r3 hr3)) ZO.f) (tq (sq (rgX ⟨[(4,bv ((decide (r2.1<=r3))&&(decide (r3<=r2.2.1))))],[],[]⟩ ?_ ?_)))
 ·rcases Bool.eq_false_or_eq_true (decide (r2.1<=r3)) with hc4|hc5
  ·exact (EP.u 2 (ZX (c:=(decide (r2.1<=r3))) (h:=hc4)) (EP.f (by simp only [hc4];kernel_rfl)))
  exact (EP.u 2 (ZX (c:=(decide (r2.1<=r3))) (h:=hc5)) (EP.f (by simp only [hc5];kernel_rfl)))
 refine tq (rt ?_)
 cases h
 exact Zab kr
theorem ZdZ (N:Nat)(a0_:ZaD)(a1_:(List Int))(a2_:(List Int))(r:Bool)(h:Zcv N a0_ a1_ a2_=some r):PCall Try.prog 80 [.agg (ZP a0_.Topo),ZU false a1_,ZU false a2_] (bv r):=by
 unfold Zcv at h
 have hH  := hp0
 refine Zal ZzJ rfl rfl (Z5 _ _ _ ?_) rfl
 refine sq (rg ZO.f (tq (sq ?_)))
 obtain ⟨r1,hr1,h⟩:=bs h
 refine rg (ZO.v 2 (Z7 (hc:=ZcA N a0_ a1_ r1 hr1)) ZO.f) (tq (sq (rg (ZO.u 1 (Z0 (ys:=[ZU false r1]) (h:=Z6 eI64)) ZO.f) (tq (sq ?_)))))
 obtain ⟨r2,hr2,h⟩:=bs h
 refine rg (ZO.v 2 (Z7 (hc:=ZcA N a0_ a2_ r2 hr2)) ZO.f) (tq (sq (sq ?_)))
 obtain ⟨l3,hl3,h⟩:=bs h
 refine rg (ZO.u 3 (Z0 (ys:=[ZU false r1,iv 1,iv (w64 (((List.length r1:Nat):Int)-1)),iv (w64 (((List.length r1:Nat):Int)-1))]) (h:=ZjW eI64 hl3)) (ZO.u 0 (Z0 (ys:=[ZU true l3]) (h:=Z6 eI64)) ZO.f)) (tq (bk ?_))
 obtain ⟨a3,a0,h⟩:=bs h
 refine ZaG ((Zat (λ(x:Int) s=>s=⟨[(9,ZU false r2),(24,ZU true l3),(25,iv ((List.length l3:Nat):Int)),(26,iv x)],[],[]⟩) (λx:Int=>ZbO N r2 l3 x) (λ(p:(Unit)⊕(Bool)) e s=>match p with|(.inl p)=>e=.exit 0/\(s=⟨[],[],[]⟩)|(.inr p)=>e=.ret/\∃ xs,resL s i80.res=some xs/\Zbd xs=bv p) ?_ N _ a3 _ a0 kr).mono ?_)
 ·clear h a0
  rintro i4 o s h hR
  obtain rfl:=hR
  replace h:ZbO N r2 l3 i4=some o:=h
  unfold ZbO at h
  refine sq (rg ZO.f (tq (sq (it h (λa6 h=>?_) (λa6 h=>?_)))))
  ·refine sk (tq (kq (sq (bk (sq ?_)))))
   obtain ⟨a2,a1,h⟩:=bs h
   refine rg (ZO.u 0 (Z0 (ys:=[ZU true l3,iv i4]) (h:=ZY eI64 a1)) (ZO.u 0 (Zae (sz:=1) (off:=0) (cs:=[.int .i64 a2]) (r:=iv a2) eI64 a1) ZO.f)) (tq (sq ?_))
   obtain ⟨a7,a4,h⟩:=bs h
   refine rg (ZO.v 2 (Z7 (hc:=ZdX N r2 a2 a7 a4)) ZO.f) (tq (it h (λa5 h=>?_) (λa5 h=>?_)))
   ·refine sq (rg ZO.f (tq (rt (br (tr ?_)))))
    cases h
    exact ⟨_,rfl,rfl,Zab kr⟩
   refine sk (bn (tq (kq (rg ZO.f ?_))))
   cases h
   exact ⟨_,rfl,kr⟩
  refine kq (xq (tx ?_))
  cases h
  exact ⟨_,rfl,rfl,kr⟩
 rintro e s hq
 rcases a3 with a9|a8
 ·dsimp only at h hq
  obtain ⟨rfl,hR⟩:=hq
  obtain rfl:=hR
  refine bx (tq (sq (rg ZO.f (tq (rt ?_)))))
  cases h
  exact Zab kr
 dsimp only at h hq
 obtain ⟨rfl,hq⟩:=hq
 refine br (tr ?_)
 cases h
 exact hq
theorem Ze6 (N:Nat)(a0_:(List Int))(r:Int×Int)(h:ZeK N a0_=some r):PCall Try.prog 27 [ZU false a0_] (.tup [iv r.1,iv r.2]):=by
 unfold ZeK at h
 have hH  := hp0
 refine Zal ZAA rfl rfl (Z5 _ _ _ ?_) rfl
 refine sq (rg ZO.f (tq (sq ?_)))
 obtain ⟨l3,hl3,h⟩:=bs h
 obtain ⟨a1,H2,ha1,hH2,ha1b,hH⟩:=HP.make ZaY hH hl3
 replace hH:HP _ [.arr a1 3 false (List.map ZaY l3)]:=hH
 have hfa1:=Za5 (HP.get hH 0 rfl)
 refine rgS ⟨[(0,ZU false a0_),(4,a1)],[],H2⟩ (ZO.u 1 (Z0 (ys:=[ZU false a0_]) (h:=Z6 eI64)) (ZO.h 0 (Zgw (H:=[]) (zero:=[.int .i64 0,.int .i64 0,.int .i64 0]) (bytes:=24) kr kr kr ha1 hH2 ha1b) ZO.f)) (by cases hfa1<;>kernel_rfl) (tq (sq (sq (rgS ⟨[(4,a1),(10,ZU false a0_),(11,iv ((List.length a0_:Nat):Int)),(12,iv 0)],[],H2⟩ (ZO.u 1 (Z0 (ys:=[ZU false a0_]) (h:=Z6 eI64)) ZO.f) (by cases hfa1<;>kernel_rfl) (tq (bk ?_))))))
 obtain ⟨a5,ab,h⟩:=bs h
 refine ZaG ((Zat (λ(x:Int×(List ZaM)) s=>∃ (a4:AV) (H5:List HO),s=⟨[(4,a4),(10,ZU false a0_),(11,iv ((List.length a0_:Nat):Int)),(12,iv x.1)],[],H5⟩/\HP H5 [.arr a4 3 false (List.map ZaY x.2)]) (λx:Int×(List ZaM)=>ZdL N a0_ x.1 x.2) (λ(p:(List ZaM)) e s=>e=.exit 0/\(∃ (a2:AV) (aa:List HO),s=⟨[(4,a2)],[],aa⟩/\HP aa [.arr a2 3 false (List.map ZaY p)])) ?_ N _ a5 _ ab ⟨a1,H2,(by show _=_;cases hfa1<;>kernel_rfl),(HP.pick hH [0] rfl)⟩).mono ?_)
 ·clear h ab
  rintro ⟨i6,l7⟩ o s h hR
  obtain ⟨a4,H5,rfl,hH⟩:=hR
  replace hH:HP _ [.arr a4 3 false (List.map ZaY l7)]:=hH
  have hfa4:=Za5 (HP.get hH 0 rfl)
  replace h:ZdL N a0_ i6 l7=some o:=h
  unfold ZdL at h
  refine sq (rgS ⟨[(4,a4),(10,ZU false a0_),(11,iv ((List.length a0_:Nat):Int)),(12,iv i6),(13,bv (decide (i6<((List.length a0_:Nat):Int))))],[],H5⟩ ZO.f (by cases hfa4<;>kernel_rfl) (tq (sq (it h (λaj h=>?_) (λaj h=>?_)))))
  ·refine sk (tq (kq (sq (bk (sq ?_)))))
   obtain ⟨a0,ad,h⟩:=bs h
   refine rgS ⟨[(4,a4),(5,iv i6),(6,iv a0),(10,ZU false a0_),(11,iv ((List.length a0_:Nat):Int)),(12,iv i6)],[],H5⟩ (ZO.u 1 (Z0 (ys:=[ZU false a0_,iv i6]) (h:=ZY eI64 ad)) (ZO.u 0 (Zae (sz:=1) (off:=0) (cs:=[.int .i64 a0]) (r:=iv a0) eI64 ad) ZO.f)) (by cases hfa4<;>kernel_rfl) (tq ?_)
   obtain ⟨ap,ac,h⟩:=bs h
   obtain ⟨ao,al,_,a8,af,a9,a7⟩:=HP.elem (k:=0) (a:=a4) (sz:=3) (frz:=false) ZaY hH rfl ac
   obtain ⟨ag,ak,hH⟩:=HP.setRow (k:=0) (off:=0) (cs:=[iv a0,iv 0,iv 1]) (ps:=[.int .i64 a0,.int .i64 0,.int .i64 1]) (e':=(ZaM.mk a0 0 1)) ZaY hH rfl a9 af (a8 rfl) ac kr kr
   replace hH:HP _ [.arr a4 3 false (List.map ZaY (List.set l7 (Int.toNat i6) (ZaM.mk a0 0 1)))]:=hH
   refine rgS ⟨[(4,a4),(10,ZU false a0_),(11,iv ((List.length a0_:Nat):Int)),(12,iv i6)],[],ag⟩ (ZO.u 4 (Z0 (ys:=[a4,iv i6]) (by cases hfa4<;>kernel_rfl) (a7 .i64)) (ZO.o 0 (Zam (H:=H5) (v:=.agg [iv a0,iv 0,iv 1]) (hw:=ak)) ZO.f)) (by cases hfa4<;>kernel_rfl) (bn (tq (rgS ⟨[(4,a4),(10,ZU false a0_),(11,iv ((List.length a0_:Nat):Int)),(12,iv (w64 (i6+1)))],[],ag⟩ ZO.f (by cases hfa4<;>kernel_rfl) ?_)))
   cases h
   exact ⟨_,rfl,⟨a4,ag,(by show _=_;cases hfa4<;>kernel_rfl),(HP.pick hH [0] rfl)⟩⟩
  refine kq (xq (tx ?_))
  cases h
  exact ⟨_,rfl,rfl,⟨a4,H5,(by show _=_;cases hfa4<;>kernel_rfl),(HP.pick hH [0] rfl)⟩⟩
 rintro e s hq
 obtain ⟨rfl,hR⟩:=hq
 obtain ⟨a2,aa,rfl,hH⟩:=hR
 replace hH:HP _ [.arr a2 3 false (List.map ZaY a5)]:=hH
 have a3:=Za5 (HP.get hH 0 rfl)
 refine bx (tq (sq ?_))
 obtain ⟨ae,ai,h⟩:=bs h
 obtain ⟨an,am,a6,hH⟩:=HP.frz (k:=0) (a:=a2) (sz:=3) (frz:=false) ZaY hH rfl
 replace hH:HP _ [.arr a2 3 true (List.map ZaY a5)]:=hH
 refine rgS ⟨[(2,iv ae.1),(3,iv ae.2)],[],an⟩ (ZO.v 1 (Zh0 (H:=aa) (ys:=[a2]) (by cases a3<;>kernel_rfl) (by cases a3<;>kernel_rfl) (ZeN a6 Zh4) (ZhU N a5 ae ai)) ZO.f) kr ?_
 replace hH:HP _ []:=HP.pick hH [] rfl
 refine tq (rt ?_)
 cases h
 exact Zab kr
end Go.Sh

