/- Part of the proof. -/
import Derived.Test.YtddgnfnfojoljaaProofKnownOk1
set_option linter.all false
namespace Go.Sh
open Go Go.Eng Go.Proofs
set_option maxRecDepth 100000
set_option maxHeartbeats 4000000
attribute [local irreducible] vc ev ZcU opsD opsF ZdZ upd updH updO
theorem Zfd (N:Nat)(a0_:ZM)(a1_:(List ZP))(r:Bool)(h:Zdt N a0_ a1_=some r):PCall Try.prog 25 [.agg (ZI a0_),ZK false a1_] (bv r):=by
 unfold Zdt at h
 have hH  := hp0
 refine Zaw Zpe rfl rfl (Zab _ _ _ ?_) rfl
 refine sq (rg ZJ.f (tq (sq ?_)))
 obtain ⟨r1,hr1,h⟩:=bs h
 obtain ⟨id3,id4,idm5,H2,hvr1,hpr1⟩:=ZdE N a0_ [] r1 hr1
 replace hH:HP _ [.cel id3 (ZI r1.1),.cel id4 [.map idm5],mpT idm5 3 (encE ZL bv r1.2)]:=HP.callee (fp:=[]) (rest:=[]) hH hpr1
 refine rg (ZJ.v 1 (ZfL (H:=[]) (ys:=[.agg (ZI a0_)]) kr kr kr hvr1) ZJ.f) (tq (sq ?_))
 obtain ⟨id6,H7,hid6,hH7,hH⟩:=HP.newCell hH [Za1 true []]
 replace hH:HP _ [.cel id6 [Za1 true []],.cel id3 (ZI r1.1),.cel id4 [.map idm5],mpT idm5 3 (encE ZL bv r1.2)]:=hH
 refine rg (ZJ.h 0 (ZgP (H:=H2) kr hid6 hH7) ZJ.f) (tq (sq (rg ZJ.f (tq (sq (rg ZJ.f (tq (sq (sq (rg ZJ.f (tq (bk ?_))))))))))))
 obtain ⟨ce,cb,h⟩:=bs h
 refine ZaO ((Zay (λ(x:Int×ZR) s=>s=⟨[(1,ZK false a1_),(5,.fn 51 [] [.ptr id3 0,.ptr id4 0]),(6,.ptr id6 0),(7,.fn 40 [] [.ptr id6 0]),(8,.loc 8 0),(18,iv x.1)],[(8,(Z8 x.2))],H7⟩) (λx:Int×ZR=>ZbJ N x.1 x.2) (λ(p:ZR) e s=>e=.exit 0/\(s=⟨[(1,ZK false a1_),(5,.fn 51 [] [.ptr id3 0,.ptr id4 0]),(6,.ptr id6 0),(7,.fn 40 [] [.ptr id6 0]),(8,.loc 8 0)],[(8,(Z8 p))],H7⟩)) ?_ N _ ce _ cb kr).mono ?_)
 ·clear h cb
  rintro ⟨i8,l9⟩ o s h hR
  obtain rfl:=hR
  replace h:ZbJ N i8 l9=some o:=h
  unfold ZbJ at h
  refine sq (rg ZJ.f (tq (sq (it h (λcQ h=>?_) (λcQ h=>?_)))))
  ·refine sk (tq (kq (sq (bk (sq (rg ZJ.f (tq ?_)))))))
   obtain ⟨dd,cc,h⟩:=bs h
   refine rg (ZJ.u 1 (Z0 (ys:=[.loc 8 0,iv i8]) (h:=ZbP (l:=l9.l) cc rfl)) (ZJ.o 0 (Zfk (t:=8) (off:=0) (cs:=(Z8 l9)) (l:=l9.l) (λx=>iv x) [] [] (y:=(-1)) (cs':=(Z8 (ZR.set l9 i8 (-1)))) cc kr kr kr rfl rfl (Zix (ZR.c_set l9 i8 (-1)) (by show (Z8 (ZR.set l9 i8 (-1)))=[]++(Z8 (ZR.set l9 i8 (-1))++[]);rfl))) ZJ.f)) (bn (tq (rg ZJ.f ?_)))
   cases h
   exact ⟨_,rfl,kr⟩
  refine kq (xq (tx ?_))
  cases h
  exact ⟨_,rfl,rfl,kr⟩
 rintro e s hq
 obtain ⟨rfl,hR⟩:=hq
 obtain rfl:=hR
 refine bx (tq (sq ?_))
 obtain ⟨c4,ck,h⟩:=bs h
 have bp:∀ (aG:Int) (aE:ZR) (s:(List ZZ)) (r:(((List ZZ)))) (H:List HO) (its:List Zap),(λ(s:(List ZZ)) (its:List Zap)=>∃ (a7:AV),its=[.arr a7 13 false (List.map ZN s),.cel id6 [a7],.cel id3 (ZI r1.1),.cel id4 [.map idm5],mpT idm5 3 (encE ZL bv r1.2)]) s its->HP H its->(λ(s:(List ZZ)) (aG:Int) (aE:ZR)=>ZbL N s aG aE) s aG aE=some r->∃ H' its',Zfg Try.prog (.fn 40 [] [.ptr id6 0]) [iv aG,.agg (Z8 aE)] H (.tup []) H'/\(λ(s:(List ZZ)) (its:List Zap)=>∃ (a7:AV),its=[.arr a7 13 false (List.map ZN s),.cel id6 [a7],.cel id3 (ZI r1.1),.cel id4 [.map idm5],mpT idm5 3 (encE ZL bv r1.2)]) r its'/\Fp H H' its its':=by
  clear h
  intro aG aE s q aR its hT hH h
  obtain ⟨bj,rfl⟩:∃ v,v=s:=⟨s,rfl⟩
  obtain ⟨a7,rfl⟩:=hT
  replace h:ZbL N bj aG aE=some q:=h
  unfold ZbL at h
  replace hH:Fp _ _ _ [.arr a7 13 false (List.map ZN bj),.cel id6 [a7],.cel id3 (ZI r1.1),.cel id4 [.map idm5],mpT idm5 3 (encE ZL bv r1.2)]:=Fp.refl hH
  have ae:=Za7 (Fp.get hH 0 rfl)
  suffices hs:∃ H',Zbc Try.prog 40 [iv aG,.agg (Z8 aE),.ptr id6 0] aR (.tup []) H'/\∃ its',(λ(s:(List ZZ)) (its:List Zap)=>∃ (a7:AV),its=[.arr a7 13 false (List.map ZN s),.cel id6 [a7],.cel id3 (ZI r1.1),.cel id4 [.map idm5],mpT idm5 3 (encE ZL bv r1.2)]) q its'/\Fp aR H' [.arr a7 13 false (List.map ZN bj),.cel id6 [a7],.cel id3 (ZI r1.1),.cel id4 [.map idm5],mpT idm5 3 (encE ZL bv r1.2)] its' by
   obtain ⟨H',h1,its',h2,h3⟩:=hs
   exact ⟨H',its',Zfg.of kr h1,h2,h3⟩
  refine ZcZ ZkD (λH'=>∃ its',(λ(s:(List ZZ)) (its:List Zap)=>∃ (a7:AV),its=[.arr a7 13 false (List.map ZN s),.cel id6 [a7],.cel id3 (ZI r1.1),.cel id4 [.map idm5],mpT idm5 3 (encE ZL bv r1.2)]) q its'/\Fp aR H' [.arr a7 13 false (List.map ZN bj),.cel id6 [a7],.cel id3 (ZI r1.1),.cel id4 [.map idm5],mpT idm5 3 (encE ZL bv r1.2)] its') rfl rfl rfl ?_
  show vc _ _ _ _ ⟨[(0,iv aG),(1,.agg (Z8 aE)),(2,.ptr id6 0)],[],aR⟩
  refine sq (rg ZJ.f (tq ?_))
  have bS:=Fp.get hH 1 rfl
  obtain ⟨ca,cn,h⟩:=bs h
  obtain ⟨ay,cZ,cA,hH⟩:=Fp.app (k:=0) (a:=a7) (sz:=13) (frz:=false) ZN hH rfl cn
  replace hH:Fp _ _ _ [.arr ay 13 false (List.map ZN ca),.cel id6 [a7],.cel id3 (ZI r1.1),.cel id4 [.map idm5],mpT idm5 3 (encE ZL bv r1.2)]:=hH
  have an:=Za7 (Fp.get hH 0 rfl)
  obtain ⟨cY,cG,hH⟩:=Fp.setCell (k:=1) (off:=0) (cs:=[a7]) (vs:=[ay]) (cs':=[ay]) hH rfl kr
  replace hH:Fp _ _ _ [.arr ay 13 false (List.map ZN ca),.cel id6 [ay],.cel id3 (ZI r1.1),.cel id4 [.map idm5],mpT idm5 3 (encE ZL bv r1.2)]:=hH
  refine rgS ⟨[],[],cY⟩ (ZJ.u 0 (ZaF (H:=aR) (id:=id6) (off:=0) (cs:=[a7]) (c:=[a7]) (r:=a7) (by cases ae<;>kernel_rfl) (by cases ae<;>kernel_rfl) bS (by cases ae<;>kernel_rfl) (by cases ae<;>kernel_rfl) (by cases ae<;>kernel_rfl)) (ZJ.h 4 (Zhi (H:=aR) (a:=a7) (b:=Za1 true [(ZZ.mk aG aE)]) (by cases ae<;>kernel_rfl) (by cases ae<;>kernel_rfl) (by cases ae<;>kernel_rfl) (by cases ae<;>kernel_rfl) cA) (ZJ.o 0 (ZeC (H:=cZ) (v:=ay) (cs:=[ay]) (by cases an<;>kernel_rfl) (by cases an<;>kernel_rfl) (by cases an<;>kernel_rfl) (by cases an<;>kernel_rfl) (by cases an<;>kernel_rfl) cG) ZJ.f))) (by cases an<;>cases ae<;>kernel_rfl) ?_
  cases h
  exact ⟨[],kr,kr,_,⟨ay,Eq.refl _⟩,(Fp.pk hH [0,1,2,3,4] rfl)⟩
 obtain ⟨cX,cK,bu,bY,c1⟩:=bp 0 ce [] c4 H7 [.arr (.p (.sl 13 true [])) 13 false (List.map ZN []),.cel id6 [Za1 true []],.cel id3 (ZI r1.1),.cel id4 [.map idm5],mpT idm5 3 (encE ZL bv r1.2)] (by exact ⟨(.p (.sl 13 true [])),Eq.refl _⟩) (HP.now (HP.pick (HP.nilArr hH 13 false) [0,1,2,3,4] rfl)) ck
 obtain ⟨a7,rfl⟩:=bY
 replace hH:HP _ [.arr a7 13 false (List.map ZN c4),.cel id6 [a7],.cel id3 (ZI r1.1),.cel id4 [.map idm5],mpT idm5 3 (encE ZL bv r1.2)]:=HP.callee (fp:=[.arr (.p (.sl 13 true [])) 13 false (List.map ZN []),.cel id6 [Za1 true []],.cel id3 (ZI r1.1),.cel id4 [.map idm5],mpT idm5 3 (encE ZL bv r1.2)]) (rest:=[]) (HP.pick (HP.nilArr hH 13 false) [0,1,2,3,4] rfl) c1
 have ae:=Za7 (HP.get hH 0 rfl)
 refine rg (ZJ.v 2 (ZfK (H:=H7) (fv:=.fn 40 [] [.ptr id6 0]) (ys:=[iv 0,.agg (Z8 ce)]) (hc:=bu)) ZJ.f) (tq (sq (bk ?_)))
 obtain ⟨c6,aU,h⟩:=bs h
 refine ZaO ((Zay (λ(x:(List ZZ)×(List (ZV×Bool))) s=>∃ (a2:AV) (af:List HO),s=⟨[(1,ZK false a1_),(5,.fn 51 [] [.ptr id3 0,.ptr id4 0]),(6,.ptr id6 0),(7,.fn 40 [] [.ptr id6 0])],[],af⟩/\HP af [.arr a2 13 false (List.map ZN x.1),.cel id3 (ZI r1.1),.cel id4 [.map idm5],.cel id6 [a2],mpT idm5 3 (encE ZL bv x.2)]) (λx:(List ZZ)×(List (ZV×Bool))=>ZbI N a1_ r1 x.1 x.2) (λ(p:(Unit)⊕(Bool)) e s=>match p with|(.inl p)=>e=.exit 2/\(∃ (bi:List HO),s=⟨[],[],bi⟩/\HP bi [])|(.inr p)=>e=.ret/\∃ xs,resL s i25.res=some xs/\Zbe xs=bv p) ?_ N _ c6 _ aU ⟨a7,cX,kr,(HP.pick hH [0,2,3,1,4] rfl)⟩).mono ?_)
 ·clear h aU
  rintro ⟨az,aK⟩ o s h hR
  obtain ⟨a2,af,rfl,hH⟩:=hR
  replace hH:HP _ [.arr a2 13 false (List.map ZN az),.cel id3 (ZI r1.1),.cel id4 [.map idm5],.cel id6 [a2],mpT idm5 3 (encE ZL bv aK)]:=hH
  have a0:=Za7 (HP.get hH 0 rfl)
  replace h:ZbI N a1_ r1 az aK=some o:=h
  unfold ZbI at h
  refine sq (sq ?_)
  have bR:=HP.get hH 3 rfl
  have bA:=HP.len (k:=0) (a:=a2) (sz:=13) (frz:=false) (l:=az) ZN hH rfl
  refine rgS ⟨[(1,ZK false a1_),(5,.fn 51 [] [.ptr id3 0,.ptr id4 0]),(6,.ptr id6 0),(7,.fn 40 [] [.ptr id6 0]),(29,bv (decide (((List.length az:Nat):Int)>0)))],[],af⟩ (ZJ.u 0 (ZaF (H:=af) (id:=id6) (off:=0) (cs:=[a2]) (c:=[a2]) (r:=a2) (by cases a0<;>kernel_rfl) (by cases a0<;>kernel_rfl) bR (by cases a0<;>kernel_rfl) (by cases a0<;>kernel_rfl) (by cases a0<;>kernel_rfl)) (ZJ.u 0 (Z0 (ys:=[a2]) (by cases a0<;>kernel_rfl) bA) ZJ.f)) (by cases a0<;>kernel_rfl) (tq (it h (λcw h=>?_) (λcw h=>?_)))
  ·refine sk (tq (kq (bk (sq ?_))))
   have bQ:=HP.get hH 3 rfl
   have bM:=HP.get hH 3 rfl
   have bz:=HP.len (k:=0) (a:=a2) (sz:=13) (frz:=false) (l:=az) ZN hH rfl
   obtain ⟨a4,bd,h⟩:=bs h
   obtain ⟨d7,d1,_,cL,bU,cM,aZ⟩:=HP.elem (k:=0) (a:=a2) (sz:=13) (frz:=false) ZN hH rfl bd
   refine rgS ⟨[(1,ZK false a1_),(5,.fn 51 [] [.ptr id3 0,.ptr id4 0]),(6,.ptr id6 0),(7,.fn 40 [] [.ptr id6 0]),(10,.loc 10 0)],[(10,(Zbn a4))],af⟩ (ZJ.u 0 (ZaF (H:=af) (id:=id6) (off:=0) (cs:=[a2]) (c:=[a2]) (r:=a2) (by cases a0<;>kernel_rfl) (by cases a0<;>kernel_rfl) bQ (by cases a0<;>kernel_rfl) (by cases a0<;>kernel_rfl) (by cases a0<;>kernel_rfl)) (ZJ.u 0 (ZaF (H:=af) (id:=id6) (off:=0) (cs:=[a2]) (c:=[a2]) (r:=a2) (by cases a0<;>kernel_rfl) (by cases a0<;>kernel_rfl) bM (by cases a0<;>kernel_rfl) (by cases a0<;>kernel_rfl) (by cases a0<;>kernel_rfl)) (ZJ.u 0 (Z0 (ys:=[a2]) (by cases a0<;>kernel_rfl) bz) (ZJ.u 1 (Z0 (ys:=[a2,iv (w64 (((List.length az:Nat):Int)-1))]) (by cases a0<;>kernel_rfl) (aZ .i64)) (ZJ.u 0 (Zer (H:=af) (off:=0) (cs:=([.int .i64 a4.choice]++Ze3 a4.given)) (r:=.agg (Zbn a4)) ZN bd bU) (ZJ.f (h:=(by cases a0<;>kernel_rfl)))))))) (by cases a0<;>kernel_rfl) (tq (sq ?_))
   have bL:=HP.get hH 3 rfl
   have bK:=HP.get hH 3 rfl
   have bw:=HP.len (k:=0) (a:=a2) (sz:=13) (frz:=false) (l:=az) ZN hH rfl
   obtain ⟨c9,cm,h⟩:=bs h
   obtain ⟨d6,d0,ax,cW,aY,bT,aX,cE,cz,hH⟩:=HP.pop (k:=0) ZN hH rfl cm
   replace hH:HP _ [.arr ax 13 false (List.map ZN c9),.cel id3 (ZI r1.1),.cel id4 [.map idm5],.cel id6 [a2],mpT idm5 3 (encE ZL bv aK)]:=hH
   have am:=Za7 (HP.get hH 0 rfl)
   obtain ⟨cd,cD,hH⟩:=HP.setCell (k:=3) (off:=0) (cs:=[a2]) (vs:=[ax]) (cs':=[ax]) hH rfl kr
   replace hH:HP _ [.arr ax 13 false (List.map ZN c9),.cel id3 (ZI r1.1),.cel id4 [.map idm5],.cel id6 [ax],mpT idm5 3 (encE ZL bv aK)]:=hH
   refine rgS ⟨[(1,ZK false a1_),(5,.fn 51 [] [.ptr id3 0,.ptr id4 0]),(6,.ptr id6 0),(7,.fn 40 [] [.ptr id6 0]),(10,.loc 10 0)],[(10,(Zbn a4))],cd⟩ (ZJ.u 0 (ZaF (H:=af) (id:=id6) (off:=0) (cs:=[a2]) (c:=[a2]) (r:=a2) (by cases a0<;>kernel_rfl) (by cases a0<;>kernel_rfl) bL (by cases a0<;>kernel_rfl) (by cases a0<;>kernel_rfl) (by cases a0<;>kernel_rfl)) (ZJ.u 0 (ZaF (H:=af) (id:=id6) (off:=0) (cs:=[a2]) (c:=[a2]) (r:=a2) (by cases a0<;>kernel_rfl) (by cases a0<;>kernel_rfl) bK (by cases a0<;>kernel_rfl) (by cases a0<;>kernel_rfl) (by cases a0<;>kernel_rfl)) (ZJ.u 0 (Z0 (ys:=[a2]) (by cases a0<;>kernel_rfl) bw) (ZJ.h 1 (Zja (H:=af) (av:=a2) (by cases a0<;>kernel_rfl) (by cases a0<;>kernel_rfl) (by cases a0<;>kernel_rfl) aY bT aX cE cz) (ZJ.o 0 (ZeC (H:=cW) (v:=ax) (cs:=[ax]) (by cases am<;>kernel_rfl) (by cases am<;>kernel_rfl) (by cases am<;>kernel_rfl) (by cases am<;>kernel_rfl) (by cases am<;>kernel_rfl) cD) ZJ.f))))) (by cases a0<;>cases am<;>kernel_rfl) (tq (sq ?_))
   obtain ⟨ad,bc,h⟩:=bs h
   refine rg (ZJ.u 3 (Z0 (ys:=[ZK false a1_,iv a4.choice]) (h:=ZS Z2 bc)) (ZJ.u 1 (Zal (sz:=2) (off:=0) (cs:=[.int .i64 ad.Stream]) (r:=iv ad.Stream) Z2 bc) ZJ.f)) (tq (sq (sq ?_)))
   obtain ⟨dc,bb,h⟩:=bs h
   refine rg (ZJ.u 2 (Z0 (ys:=[.loc 10 1,iv ad.Stream]) (h:=ZbP (l:=a4.given.l) bb rfl)) (ZJ.o 0 (ZeD (t:=10) (off:=1) (cs:=(Zbn a4)) (l:=a4.given.l) (λx=>iv x) [iv a4.choice] [] bb kr kr rfl rfl) ZJ.f)) (tq (it h (λcv h=>?_) (λcv h=>?_)))
   ·refine sq (rg ZJ.f ?_)
    replace hH:HP _ []:=HP.pick hH [] rfl
    refine tq (rt (tr (br ?_)))
    cases h
    exact ⟨_,rfl,rfl,Zaj kr⟩
   refine sk (tq (kq (sq ?_)))
   obtain ⟨ao,ba,h⟩:=bs h
   refine rg (ZJ.u 3 (Z0 (ys:=[ZK false a1_,iv a4.choice]) (h:=ZS Z2 ba)) (ZJ.u 1 (Zal (sz:=2) (off:=1) (cs:=[.sl 4 false (List.map Zan ao.Arms)]) (r:=Z3 false ao.Arms) Z2 ba) (ZJ.u 0 (Z0 (ys:=[Z3 false ao.Arms]) (h:=Zae Zan)) ZJ.f))) (tq (bk ?_))
   obtain ⟨c7,aV,h⟩:=bs h
   refine ZaO ((Zay (λ(x:Int×(List ZZ)×(List (ZV×Bool))) s=>∃ (ac:AV) (ar:List HO),s=⟨[(1,ZK false a1_),(5,.fn 51 [] [.ptr id3 0,.ptr id4 0]),(6,.ptr id6 0),(7,.fn 40 [] [.ptr id6 0]),(10,.loc 10 0),(11,iv ad.Stream),(57,Z3 false ao.Arms),(58,iv ((List.length ao.Arms:Nat):Int)),(59,iv x.1)],[(10,(Zbn a4))],ar⟩/\HP ar [.arr ac 13 false (List.map ZN x.2.1),.cel id3 (ZI r1.1),.cel id4 [.map idm5],.cel id6 [ac],mpT idm5 3 (encE ZL bv x.2.2)]) (λx:Int×(List ZZ)×(List (ZV×Bool))=>ZbH N r1 a4 ad ao x.1 x.2.1 x.2.2) (λ(p:((List ZZ)×(List (ZV×Bool)))⊕(Bool)) e s=>match p with|(.inl p)=>e=.exit 4/\(∃ (aC:AV) (aQ:List HO),s=⟨[(1,ZK false a1_),(5,.fn 51 [] [.ptr id3 0,.ptr id4 0]),(6,.ptr id6 0),(7,.fn 40 [] [.ptr id6 0])],[],aQ⟩/\HP aQ [.arr aC 13 false (List.map ZN p.1),.cel id3 (ZI r1.1),.cel id4 [.map idm5],.cel id6 [aC],mpT idm5 3 (encE ZL bv p.2)])|(.inr p)=>e=.ret/\∃ xs,resL s i25.res=some xs/\Zbe xs=bv p) ?_ N _ c7 _ aV ⟨ax,cd,kr,(HP.pick hH [0,1,2,3,4] rfl)⟩).mono ?_)
   ·clear h aV
    rintro ⟨aT,a5,ab⟩ o s h hR
    obtain ⟨ac,ar,rfl,hH⟩:=hR
    replace hH:HP _ [.arr ac 13 false (List.map ZN a5),.cel id3 (ZI r1.1),.cel id4 [.map idm5],.cel id6 [ac],mpT idm5 3 (encE ZL bv ab)]:=hH
    have d5:=Za7 (HP.get hH 0 rfl)
    replace h:ZbH N r1 a4 ad ao aT a5 ab=some o:=h
    unfold ZbH at h
    refine sq (rg ZJ.f (tq (sq (it h (λcu h=>?_) (λcu h=>?_)))))
    ·refine sk (tq (kq (sq (bk (sq ?_)))))
     obtain ⟨a9,b2,h⟩:=bs h
     refine rg (ZJ.u 0 (Z0 (ys:=[Z3 false ao.Arms,iv aT]) (h:=ZS Zan b2)) (ZJ.u 0 (Zal (sz:=4) (off:=0) (cs:=[.int .i64 a9.From,.int .i64 a9.To,.int .i64 a9.By,.int .i64 a9.Next]) (r:=.agg (ZaC a9)) Zan b2) ZJ.f)) (tq (bk (sq (rg ZJ.f (tq (it h (λct h=>?_) (λct h=>?_)))))))
     ·refine sq (rg ZJ.f (tq (sq ?_)))
      obtain ⟨db,b1,h⟩:=bs h
      refine rg (ZJ.u 3 (Z0 (ys:=[.loc 14 0,iv ad.Stream]) (h:=ZbP (l:=a4.given.l) b1 rfl)) (ZJ.o 0 (Zfk (t:=14) (off:=0) (cs:=(Z8 a4.given)) (l:=a4.given.l) (λx=>iv x) [] [] (y:=a9.From) (cs':=(Z8 (ZR.set a4.given ad.Stream a9.From))) b1 kr kr kr rfl rfl (Zix (ZR.c_set a4.given ad.Stream a9.From) (by show (Z8 (ZR.set a4.given ad.Stream a9.From))=[]++(Z8 (ZR.set a4.given ad.Stream a9.From)++[]);rfl))) ZJ.f)) (tq ?_)
      obtain ⟨c3,cj,h⟩:=bs h
      have bm:∀ (aq:Int) (ap:ZR) (s:(List ZZ)) (r:(((List ZZ)))) (H:List HO) (its:List Zap),(λ(s:(List ZZ)) (its:List Zap)=>∃ (a3:AV),its=[.arr a3 13 false (List.map ZN s),.cel id3 (ZI r1.1),.cel id4 [.map idm5],.cel id6 [a3],mpT idm5 3 (encE ZL bv ab)]) s its->HP H its->(λ(s:(List ZZ)) (aq:Int) (ap:ZR)=>ZbK N s aq ap) s aq ap=some r->∃ H' its',Zfg Try.prog (.fn 40 [] [.ptr id6 0]) [iv aq,.agg (Z8 ap)] H (.tup []) H'/\(λ(s:(List ZZ)) (its:List Zap)=>∃ (a3:AV),its=[.arr a3 13 false (List.map ZN s),.cel id3 (ZI r1.1),.cel id4 [.map idm5],.cel id6 [a3],mpT idm5 3 (encE ZL bv ab)]) r its'/\Fp H H' its its':=by
       clear h
       intro aq ap s q aD its hT hH h
       obtain ⟨aJ,rfl⟩:∃ v,v=s:=⟨s,rfl⟩
       obtain ⟨a3,rfl⟩:=hT
       replace h:ZbK N aJ aq ap=some q:=h
       unfold ZbK at h
       replace hH:Fp _ _ _ [.arr a3 13 false (List.map ZN aJ),.cel id3 (ZI r1.1),.cel id4 [.map idm5],.cel id6 [a3],mpT idm5 3 (encE ZL bv ab)]:=Fp.refl hH
       have a6:=Za7 (Fp.get hH 0 rfl)
       suffices hs:∃ H',Zbc Try.prog 40 [iv aq,.agg (Z8 ap),.ptr id6 0] aD (.tup []) H'/\∃ its',(λ(s:(List ZZ)) (its:List Zap)=>∃ (a3:AV),its=[.arr a3 13 false (List.map ZN s),.cel id3 (ZI r1.1),.cel id4 [.map idm5],.cel id6 [a3],mpT idm5 3 (encE ZL bv ab)]) q its'/\Fp aD H' [.arr a3 13 false (List.map ZN aJ),.cel id3 (ZI r1.1),.cel id4 [.map idm5],.cel id6 [a3],mpT idm5 3 (encE ZL bv ab)] its' by
        obtain ⟨H',h1,its',h2,h3⟩:=hs
        exact ⟨H',its',Zfg.of kr h1,h2,h3⟩
       refine ZcZ ZkD (λH'=>∃ its',(λ(s:(List ZZ)) (its:List Zap)=>∃ (a3:AV),its=[.arr a3 13 false (List.map ZN s),.cel id3 (ZI r1.1),.cel id4 [.map idm5],.cel id6 [a3],mpT idm5 3 (encE ZL bv ab)]) q its'/\Fp aD H' [.arr a3 13 false (List.map ZN aJ),.cel id3 (ZI r1.1),.cel id4 [.map idm5],.cel id6 [a3],mpT idm5 3 (encE ZL bv ab)] its') rfl rfl rfl ?_
       show vc _ _ _ _ ⟨[(0,iv aq),(1,.agg (Z8 ap)),(2,.ptr id6 0)],[],aD⟩
       refine sq (rg ZJ.f (tq ?_))
       have bJ:=Fp.get hH 3 rfl
       obtain ⟨c8,cl,h⟩:=bs h
       obtain ⟨aw,cV,cy,hH⟩:=Fp.app (k:=0) (a:=a3) (sz:=13) (frz:=false) ZN hH rfl cl
       replace hH:Fp _ _ _ [.arr aw 13 false (List.map ZN c8),.cel id3 (ZI r1.1),.cel id4 [.map idm5],.cel id6 [a3],mpT idm5 3 (encE ZL bv ab)]:=hH
       have al:=Za7 (Fp.get hH 0 rfl)
       obtain ⟨cU,cC,hH⟩:=Fp.setCell (k:=3) (off:=0) (cs:=[a3]) (vs:=[aw]) (cs':=[aw]) hH rfl kr
       replace hH:Fp _ _ _ [.arr aw 13 false (List.map ZN c8),.cel id3 (ZI r1.1),.cel id4 [.map idm5],.cel id6 [aw],mpT idm5 3 (encE ZL bv ab)]:=hH
       refine rgS ⟨[],[],cU⟩ (ZJ.u 0 (ZaF (H:=aD) (id:=id6) (off:=0) (cs:=[a3]) (c:=[a3]) (r:=a3) (by cases a6<;>kernel_rfl) (by cases a6<;>kernel_rfl) bJ (by cases a6<;>kernel_rfl) (by cases a6<;>kernel_rfl) (by cases a6<;>kernel_rfl)) (ZJ.h 4 (Zhi (H:=aD) (a:=a3) (b:=Za1 true [(ZZ.mk aq ap)]) (by cases a6<;>kernel_rfl) (by cases a6<;>kernel_rfl) (by cases a6<;>kernel_rfl) (by cases a6<;>kernel_rfl) cy) (ZJ.o 0 (ZeC (H:=cV) (v:=aw) (cs:=[aw]) (by cases al<;>kernel_rfl) (by cases al<;>kernel_rfl) (by cases al<;>kernel_rfl) (by cases al<;>kernel_rfl) (by cases al<;>kernel_rfl) cC) ZJ.f))) (by cases a6<;>cases al<;>kernel_rfl) ?_
       cases h
       exact ⟨[],kr,kr,_,⟨aw,Eq.refl _⟩,(Fp.pk hH [0,1,2,3,4] rfl)⟩
      obtain ⟨cT,cJ,bt,bX,c0⟩:=bm a9.Next (ZR.set a4.given ad.Stream a9.From) a5 c3 ar [.arr ac 13 false (List.map ZN a5),.cel id3 (ZI r1.1),.cel id4 [.map idm5],.cel id6 [ac],mpT idm5 3 (encE ZL bv ab)] (by exact ⟨ac,Eq.refl _⟩) (HP.now (HP.pick hH [0,1,2,3,4] rfl)) cj
      obtain ⟨a3,rfl⟩:=bX
      replace hH:HP _ [.arr a3 13 false (List.map ZN c3),.cel id3 (ZI r1.1),.cel id4 [.map idm5],.cel id6 [a3],mpT idm5 3 (encE ZL bv ab)]:=HP.callee (fp:=[.arr ac 13 false (List.map ZN a5),.cel id3 (ZI r1.1),.cel id4 [.map idm5],.cel id6 [ac],mpT idm5 3 (encE ZL bv ab)]) (rest:=[]) (HP.pick hH [0,1,2,3,4] rfl) c0
      have a6:=Za7 (HP.get hH 0 rfl)
      refine rg (ZJ.v 4 (ZfK (H:=ar) (fv:=.fn 40 [] [.ptr id6 0]) (ys:=[iv a9.Next,.agg (Z8 (ZR.set a4.given ad.Stream a9.From))]) (hc:=bt)) ZJ.f) (bn (bn (tq (kq (rg ZJ.f ?_)))))
      cases h
      exact ⟨_,rfl,⟨a3,cT,kr,(HP.pick hH [0,1,2,3,4] rfl)⟩⟩
     refine sq ?_
     obtain ⟨aS,hj,h⟩:=bs h
     refine rgR (λs=>∃ (aA:AV) (aM:List HO),s=⟨[(1,ZK false a1_),(5,.fn 51 [] [.ptr id3 0,.ptr id4 0]),(6,.ptr id6 0),(7,.fn 40 [] [.ptr id6 0]),(10,.loc 10 0),(11,iv ad.Stream),(57,Z3 false ao.Arms),(58,iv ((List.length ao.Arms:Nat):Int)),(59,iv aT),(78,bv aS.1)],[(10,(Zbn a4))],aM⟩/\HP aM [.arr aA 13 false (List.map ZN a5),.cel id3 (ZI r1.1),.cel id4 [.map idm5],.cel id6 [aA],mpT idm5 3 (encE ZL bv aS.2)]) ?_ ?_
     ·clear h
      rcases Zai hj with ⟨cr,hj⟩|⟨cp,hj⟩
      ·refine (EP.u 2 (ZO (c:=(decide (a9.By≥0))) (h:=cr)) ?_)
       obtain ⟨c2,cf,hj⟩:=bs hj
       have bl:∀ (a8:Int) (aj:Int) (aa:Int) (ai:Int) (s:(List (ZV×Bool))) (r:(((List (ZV×Bool)))×Bool)) (H:List HO) (its:List Zap),(λ(s:(List (ZV×Bool))) (its:List Zap)=>∃ (a1:AV),its=[.arr a1 13 false (List.map ZN a5),.cel id3 (ZI r1.1),.cel id4 [.map idm5],.cel id6 [a1],mpT idm5 3 (encE ZL bv s)]) s its->HP H its->(λ(s:(List (ZV×Bool))) (a8:Int) (aj:Int) (aa:Int) (ai:Int)=>Zbf N r1 s a8 aj aa ai) s a8 aj aa ai=some r->∃ H' its',Zfg Try.prog (.fn 51 [] [.ptr id3 0,.ptr id4 0]) [iv a8,iv aj,iv aa,iv ai] H (bv r.2) H'/\(λ(s:(List (ZV×Bool))) (its:List Zap)=>∃ (a1:AV),its=[.arr a1 13 false (List.map ZN a5),.cel id3 (ZI r1.1),.cel id4 [.map idm5],.cel id6 [a1],mpT idm5 3 (encE ZL bv s)]) r.1 its'/\Fp H H' its its':=by
        clear h
        intro a8 aj aa ai s q ag its hT hH h
        obtain ⟨ak,rfl⟩:∃ v,v=s:=⟨s,rfl⟩
        obtain ⟨a1,rfl⟩:=hT
        replace h:Zbf N r1 ak a8 aj aa ai=some q:=h
        unfold Zbf at h
        replace hH:Fp _ _ _ [.arr a1 13 false (List.map ZN a5),.cel id3 (ZI r1.1),.cel id4 [.map idm5],.cel id6 [a1],mpT idm5 3 (encE ZL bv ak)]:=Fp.refl hH
        have bV:=Za7 (Fp.get hH 0 rfl)
        suffices hs:∃ H',Zbc Try.prog 51 [iv a8,iv aj,iv aa,iv ai,.ptr id3 0,.ptr id4 0] ag (bv q.2) H'/\∃ its',(λ(s:(List (ZV×Bool))) (its:List Zap)=>∃ (a1:AV),its=[.arr a1 13 false (List.map ZN a5),.cel id3 (ZI r1.1),.cel id4 [.map idm5],.cel id6 [a1],mpT idm5 3 (encE ZL bv s)]) q.1 its'/\Fp ag H' [.arr a1 13 false (List.map ZN a5),.cel id3 (ZI r1.1),.cel id4 [.map idm5],.cel id6 [a1],mpT idm5 3 (encE ZL bv ak)] its' by
         obtain ⟨H',h1,its',h2,h3⟩:=hs
         exact ⟨H',its',Zfg.of kr h1,h2,h3⟩
        refine ZcZ ZoZ (λH'=>∃ its',(λ(s:(List (ZV×Bool))) (its:List Zap)=>∃ (a1:AV),its=[.arr a1 13 false (List.map ZN a5),.cel id3 (ZI r1.1),.cel id4 [.map idm5],.cel id6 [a1],mpT idm5 3 (encE ZL bv s)]) q.1 its'/\Fp ag H' [.arr a1 13 false (List.map ZN a5),.cel id3 (ZI r1.1),.cel id4 [.map idm5],.cel id6 [a1],mpT idm5 3 (encE ZL bv ak)] its') rfl rfl rfl ?_
        show vc _ _ _ _ ⟨[(0,iv a8),(1,iv aj),(2,iv aa),(3,iv ai),(4,.ptr id3 0),(5,.ptr id4 0)],[],ag⟩
        refine sq (rg ZJ.f (tq (sq ?_)))
        have bI:=Fp.get hH 1 rfl
        obtain ⟨be,b0,h⟩:=bs h
        obtain ⟨au,ci,h⟩:=bs h
        refine rg (ZJ.u 5 (ZaF (H:=ag) (id:=id3) (off:=0) (cs:=(ZI r1.1)) (c:=[Zaf false r1.1.Periods]) (r:=Zaf false r1.1.Periods) (hl:=bI)) (ZJ.u 1 (Z0 (ys:=[Zaf false r1.1.Periods,iv a8]) (h:=ZS eI64 b0)) (ZJ.u 0 (Zal (sz:=1) (off:=0) (cs:=[.int .i64 be]) (r:=iv be) eI64 b0) (ZJ.v 0 (Z9 (hc:=Zd7 N (w64 (aj-ai)) be au ci)) ZJ.f)))) (tq (sq ?_))
        have bG:=Fp.get hH 2 rfl
        have bC:=Fp.get hH 4 rfl
        refine rg (ZJ.u 0 (ZaF (H:=ag) (id:=id4) (off:=0) (cs:=[.map idm5]) (c:=[.map idm5]) (r:=.map idm5) (hl:=bG)) (ZJ.u 1 (Zh6 (H:=ag) (id:=idm5) (kn:=3) (ke:=ZL) (ve:=bv) (l:=ak) (x:=(ZV.mk a8 au aa)) (z:=false) (r:=.tup [bv (ZiW ak (ZV.mk a8 au aa) false),bv (mhas ak (ZV.mk a8 au aa))]) kr kr bC kr kr (λ_=>rfl)) ZJ.f)) (tq ?_)
        obtain ⟨aL,aW,h⟩:=bs h
        refine ZfF [12] (λs=>∃ (aB:AV) (bf:List HO),s=⟨[(12,bv aL.1)],[],bf⟩/\Fp ag bf [.arr a1 13 false (List.map ZN a5),.cel id3 (ZI r1.1),.cel id4 [.map idm5],.cel id6 [a1],mpT idm5 3 (encE ZL bv ak)] [.arr aB 13 false (List.map ZN a5),.cel id3 (ZI r1.1),.cel id4 [.map idm5],.cel id6 [aB],mpT idm5 3 (encE ZL bv aL.2)]) ?_ ?_
        ·clear h
         have h:=aW
         refine sq (rg ZJ.f (tq (it h (λcq h=>?_) (λcq h=>?_))))
         ·refine sq ?_
          have bE:=Fp.get hH 1 rfl
          obtain ⟨aI,cg,h⟩:=bs h
          refine rg (ZJ.u 0 (ZaF (H:=ag) (id:=id3) (off:=0) (cs:=(ZI r1.1)) (c:=(ZI r1.1)) (r:=.agg (ZI r1.1)) (hl:=bE)) (ZJ.v 6 (Z9 (hc:=Zeq N r1.1 a8 au aa 0 aI cg)) ZJ.f)) (tq ?_)
          have bD:=Fp.get hH 2 rfl
          have bB:=Fp.get hH 4 rfl
          obtain ⟨cS,cB,hH⟩:=Fp.setMp (k:=4) hH rfl (encE ZL bv (Zgv ak (ZV.mk a8 au aa) aI.1))
          replace hH:Fp _ _ _ [.arr a1 13 false (List.map ZN a5),.cel id3 (ZI r1.1),.cel id4 [.map idm5],.cel id6 [a1],mpT idm5 3 (encE ZL bv (Zgv ak (ZV.mk a8 au aa) aI.1))]:=hH
          refine rg (ZJ.u 0 (ZaF (H:=ag) (id:=id4) (off:=0) (cs:=[.map idm5]) (c:=[.map idm5]) (r:=.map idm5) (hl:=bD)) (ZJ.o 2 (Zjb (H:=ag) (id:=idm5) (kn:=3) (ke:=ZL) (ve:=bv) (l:=ak) (x:=(ZV.mk a8 au aa)) (v:=aI.1) (y:=bv aI.1) kr kr bB kr kr cB) ZJ.f)) ?_
          cases h
          exact ⟨rfl,⟨a1,cS,kr,(Fp.pick hH [0,1,2,3,4] rfl)⟩⟩
         refine sk ?_
         cases h
         exact ⟨rfl,⟨a1,ag,kr,(Fp.pick hH [0,1,2,3,4] rfl)⟩⟩
        clear aW
        rintro s hR
        obtain ⟨aB,bf,rfl,hH⟩:=hR
        replace hH:Fp _ _ _ [.arr aB 13 false (List.map ZN a5),.cel id3 (ZI r1.1),.cel id4 [.map idm5],.cel id6 [aB],mpT idm5 3 (encE ZL bv aL.2)]:=hH
        have d3:=Za7 (Fp.get hH 0 rfl)
        refine sq (rg ZJ.f (tq (rt ?_)))
        cases h
        exact ⟨[bv aL.1],kr,kr,_,⟨aB,Eq.refl _⟩,(Fp.pk hH [0,1,2,3,4] rfl)⟩
       obtain ⟨cR,cI,bq,bW,bZ⟩:=Zeo N (λ(s:(List (ZV×Bool))) (a8:Int) (aj:Int) (aa:Int) (ai:Int)=>Zbf N r1 s a8 aj aa ai) ad.Stream a4.given a9 ab 51 [] [.ptr id3 0,.ptr id4 0] kr (λ(s:(List (ZV×Bool))) (its:List Zap)=>∃ (a1:AV),its=[.arr a1 13 false (List.map ZN a5),.cel id3 (ZI r1.1),.cel id4 [.map idm5],.cel id6 [a1],mpT idm5 3 (encE ZL bv s)]) bl ar [.arr ac 13 false (List.map ZN a5),.cel id3 (ZI r1.1),.cel id4 [.map idm5],.cel id6 [ac],mpT idm5 3 (encE ZL bv ab)] (by exact ⟨ac,Eq.refl _⟩) (HP.now (HP.pick hH [0,1,2,3,4] rfl)) c2 cf
       obtain ⟨a1,rfl⟩:=bW
       replace hH:HP _ [.arr a1 13 false (List.map ZN a5),.cel id3 (ZI r1.1),.cel id4 [.map idm5],.cel id6 [a1],mpT idm5 3 (encE ZL bv c2.1)]:=HP.callee (fp:=[.arr ac 13 false (List.map ZN a5),.cel id3 (ZI r1.1),.cel id4 [.map idm5],.cel id6 [ac],mpT idm5 3 (encE ZL bv ab)]) (rest:=[]) (HP.pick hH [0,1,2,3,4] rfl) bZ
       have bV:=Za7 (HP.get hH 0 rfl)
       obtain rfl:=Z4 hj
       exact (EP.v 6 (ZfL (H:=ar) (ys:=[.fn 51 [] [.ptr id3 0,.ptr id4 0],iv ad.Stream,.agg (Z8 a4.given),.agg (ZaC a9)]) kr kr kr bq) (EP.f ⟨a1,cR,kr,(HP.pick hH [0,1,2,3,4] rfl)⟩))
      obtain rfl:=Z4 hj
      exact (EP.u 2 (ZO (c:=(decide (a9.By≥0))) (h:=cp)) (EP.f ⟨ac,ar,kr,(HP.pick hH [0,1,2,3,4] rfl)⟩))
     clear hj
     rintro s hR
     obtain ⟨aA,aM,rfl,hH⟩:=hR
     replace hH:HP _ [.arr aA 13 false (List.map ZN a5),.cel id3 (ZI r1.1),.cel id4 [.map idm5],.cel id6 [aA],mpT idm5 3 (encE ZL bv aS.2)]:=hH
     have d2:=Za7 (HP.get hH 0 rfl)
     refine tq (it h (λco h=>?_) (λco h=>?_))
     ·refine sq (rg ZJ.f ?_)
      replace hH:HP _ []:=HP.pick hH [] rfl
      refine tq (rt (br (br (tr ?_))))
      cases h
      exact ⟨_,rfl,rfl,Zaj kr⟩
     refine sk (bn (bn (tq (kq (rg ZJ.f ?_)))))
     cases h
     exact ⟨_,rfl,⟨aA,aM,kr,(HP.pick hH [0,1,2,3,4] rfl)⟩⟩
    refine kq (xq (tx ?_))
    cases h
    exact ⟨_,rfl,rfl,⟨ac,ar,kr,(HP.pick hH [0,1,2,3,4] rfl)⟩⟩
   rintro e s hq
   rcases c7 with c5|da
   ·dsimp only at h hq
    obtain ⟨rfl,hR⟩:=hq
    obtain ⟨aC,aQ,rfl,hH⟩:=hR
    replace hH:HP _ [.arr aC 13 false (List.map ZN c5.1),.cel id3 (ZI r1.1),.cel id4 [.map idm5],.cel id6 [aC],mpT idm5 3 (encE ZL bv c5.2)]:=hH
    have d4:=Za7 (HP.get hH 0 rfl)
    refine bx (bn ?_)
    cases h
    exact ⟨_,rfl,⟨aC,aQ,kr,(HP.pick hH [0,1,2,3,4] rfl)⟩⟩
   dsimp only at h hq
   obtain ⟨rfl,hq⟩:=hq
   refine br (br ?_)
   cases h
   exact ⟨_,rfl,rfl,hq⟩
  refine kq ?_
  replace hH:HP _ []:=HP.pick hH [] rfl
  refine xq (tx ?_)
  cases h
  exact ⟨_,rfl,rfl,⟨af,kr,(HP.pick hH [] rfl)⟩⟩
 rintro e s hq
 rcases c6 with d9|d8
 ·dsimp only at h hq
  obtain ⟨rfl,hR⟩:=hq
  obtain ⟨bi,rfl,hH⟩:=hR
  replace hH:HP _ []:=hH
  refine bx (tq (sq (rg ZJ.f (tq (rt ?_)))))
  cases h
  exact Zaj kr
 dsimp only at h hq
 obtain ⟨rfl,hq⟩:=hq
 refine br (tr ?_)
 cases h
 exact hq
theorem Zav (N:Nat)(a0_:ZM)(a1_:(List ZP))(r:Int)(h:Zax N a0_ a1_=some r):PCall Try.prog 10 [.agg (ZI a0_),ZK false a1_] (iv r):=by
 unfold Zax at h
 have hH  := hp0
 refine Zaw Zpm rfl rfl (Zab _ _ _ ?_) rfl
 refine sq (rg ZJ.f (tq (sq (sq ?_))))
 obtain ⟨r1,hr1,h⟩:=bs h
 refine rg (ZJ.v 1 (Z9 (hc:=ZdF N a0_ r1 hr1)) ZJ.f) (tq (sq (rg ZJ.f (tq (it h (λhc2 h=>?_) (λhc2 h=>?_))))))
 ·refine sq (rg ZJ.f (tq (rt (tr ?_))))
  cases h
  exact Zaj kr
 refine sk (tq (kq (sq (sq ?_))))
 obtain ⟨r3,hr3,h⟩:=bs h
 refine rg (ZJ.v 2 (Z9 (hc:=ZeM N a0_ a1_ r3 hr3)) ZJ.f) (tq (it h (λhc4 h=>?_) (λhc4 h=>?_)))
 ·refine sq (rg ZJ.f (tq (rt (tr ?_))))
  cases h
  exact Zaj kr
 refine sk (tq (kq (sq (sq ?_))))
 obtain ⟨r5,hr5,h⟩:=bs h
 refine rg (ZJ.v 2 (Z9 (hc:=Zfd N a0_ a1_ r5 hr5)) ZJ.f) (tq (it h (λhc6 h=>?_) (λhc6 h=>?_)))
 ·refine sq (rg ZJ.f (tq (rt (tr ?_))))
  cases h
  exact Zaj kr
 refine sk (tq (kq (sq (rg ZJ.f (tq (rt ?_))))))
 cases h
 exact Zaj kr
theorem Zb5 (N:Nat)(a0_:(List Int))(H:List HO)(hH:HP H [])(r:(List Int))(h:ZaT N a0_=some r):∃ (or_0_0_:AV) (H':List HO),Zbc Try.prog 29 [Zaf false a0_] H (or_0_0_) H'/\Fp H H' [] [.arr or_0_0_ 1 false (List.map eI64 r)]:=by
 suffices hs:∃ r' H',Zbc Try.prog 29 [Zaf false a0_] H r' H'/\∃ (or_0_0_:AV),r'=or_0_0_/\Fp H H' [] [.arr or_0_0_ 1 false (List.map eI64 r)] by
  obtain ⟨_,H',h1,or_0_0_,he,h2⟩:=hs
  exact ⟨or_0_0_,H',he ▸ h1,h2⟩
 unfold ZaT at h
 replace hH:=Fp.refl hH
 refine Zg8 Zpd [] (λr' H'=>∃ (or_0_0_:AV),r'=or_0_0_/\Fp H H' [] [.arr or_0_0_ 1 false (List.map eI64 r)]) (λr' H' q=>by obtain ⟨or_0_0_,e,hp⟩:=q;subst e;have hfor_0_0_:=Za7 (Fp.get hp 0 rfl);show Zac _=true;cases hfor_0_0_<;>rfl) rfl kr (sq (rgS ⟨[(0,Zaf false a0_)],[],H⟩ ZJ.f kr (tq (sq (sq ?_)))))
 obtain ⟨u1,hu1,h⟩:=bs h
 refine rgS ⟨[(0,Zaf false a0_),(4,bv false)],[],H⟩ (ZJ.u 1 (Z0 (ys:=[Zaf false a0_]) (h:=ZgO (neg:=false) (ZiS hu1))) ZJ.f) kr (tq (ZiH kr (sk (tq (kq (sq ?_))))))
 obtain ⟨l4,hl4,h⟩:=bs h
 obtain ⟨a2,H3,ha2,hH⟩:=Zi0 (sz:=1) eI64 hH hl4
 replace hH:Fp _ _ _ [.arr a2 1 false (List.map eI64 l4)]:=hH
 have hfa2:=Za7 (Fp.get hH 0 rfl)
 refine rgS ⟨[(2,a2)],[],H3⟩ (ZJ.h 2 (Zhi (H:=H) (a:=Zaf true []) (b:=Zaf false a0_) kr kr kr kr ha2) ZJ.f) (by cases hfa2<;>kernel_rfl) (tq (rt ?_))
 cases h
 exact ⟨[a2],(by cases hfa2<;>kernel_rfl),a2,(by cases hfa2<;>kernel_rfl),Fp.pk hH [0] rfl⟩
theorem Za6 (N:Nat)(a0_:ZM)(a1_:(List ZP))(a2_:(List Int))(r:Int×Int×Int)(h:Zbv N a0_ a1_ a2_=some r):PCall Try.prog 14 [.agg (ZI a0_),ZK false a1_,Zaf false a2_] (.tup [iv r.1,iv r.2.1,iv r.2.2]):=by
 unfold Zbv at h
 have hH  := hp0
 refine Zaw Zpk rfl rfl (Zab _ _ _ ?_) rfl
 refine sq (rg ZJ.f (tq (Zhc (EvI.scope (sq (sq ?_))))))
 obtain ⟨r1,hr1,h⟩:=bs h
 refine rg (ZJ.v 2 (Z9 (hc:=Zav N a0_ a1_ r1 hr1)) ZJ.f) (tq (sq (rg ZJ.f (tq (it h (λhc2 h=>?_) (λhc2 h=>?_))))))
 ·refine sq (rg ZJ.f (tq (rt (tr (nr ?_)))))
  cases h
  exact Zaj kr
 refine sk (tq (kq (sq (sq (rg (ZJ.u 1 (Z0 (ys:=[Zaf false a2_]) (h:=Zae eI64)) (ZJ.u 2 (Z0 (ys:=[Zaf false a0_.Periods]) (h:=Zae eI64)) ZJ.f)) (tq (it h (λhc3 h=>?_) (λhc3 h=>?_))))))))
 ·refine sq (rg ZJ.f (tq (rt (tr (nr ?_)))))
  cases h
  exact Zaj kr
 refine sk (tq (kq (sq (sq (rg (ZJ.u 1 (Z0 (ys:=[Zaf false a2_]) (h:=Zae eI64)) ZJ.f) (tq (bk ?_)))))))
 obtain ⟨b2,aM,h⟩:=bs h
 refine ZaO ((Zay (λ(x:Int) s=>s=⟨[(1,ZK false a1_),(2,Zaf false a2_),(3,.loc 3 0),(29,Zaf false a2_),(30,iv ((List.length a2_:Nat):Int)),(31,iv x)],[(3,(ZI a0_))],[]⟩) (λx:Int=>Zce N a0_ a2_ x) (λ(p:(Unit)⊕(Int×Int×Int)) e s=>match p with|(.inl p)=>e=.exit 0/\(s=⟨[(1,ZK false a1_),(2,Zaf false a2_),(3,.loc 3 0)],[(3,(ZI a0_))],[]⟩)|(.inr p)=>e=.ret/\∃ xs,resL s i14.res=some xs/\Zbe xs=.tup [iv p.1,iv p.2.1,iv p.2.2]) ?_ N _ b2 _ aM kr).mono ?_)
 ·clear h aM
  rintro i4 o s h hR
  obtain rfl:=hR
  replace h:Zce N a0_ a2_ i4=some o:=h
  unfold Zce at h
  refine sq (rg ZJ.f (tq (sq (it h (λbm h=>?_) (λbm h=>?_)))))
  ·refine sk (tq (kq (sq (bk (sq ?_)))))
   obtain ⟨aJ,aR,h⟩:=bs h
   refine rg (ZJ.u 1 (Z0 (ys:=[Zaf false a2_,iv i4]) (h:=ZS eI64 aR)) (ZJ.u 0 (Zal (sz:=1) (off:=0) (cs:=[.int .i64 aJ]) (r:=iv aJ) eI64 aR) ZJ.f)) (tq (sq ?_))
   obtain ⟨bw,hj,h⟩:=bs h
   refine rgR (λs=>s=⟨[(1,ZK false a1_),(2,Zaf false a2_),(3,.loc 3 0),(29,Zaf false a2_),(30,iv ((List.length a2_:Nat):Int)),(31,iv i4),(46,bv bw)],[(3,(ZI a0_))],[]⟩) ?_ ?_
   ·clear h
    rcases Zai hj with ⟨bl,hj⟩|⟨bj,hj⟩
    ·obtain rfl:=Z4 hj
     exact (EP.u 1 (ZO (c:=(decide (aJ<0))) (h:=bl)) (EP.f kr))
    refine (EP.u 1 (ZO (c:=(decide (aJ<0))) (h:=bj)) ?_)
    obtain ⟨bp,aQ,hj⟩:=bs hj
    obtain rfl:=Z4 hj
    exact (EP.u 5 (Z0 (ys:=[Zaf false a0_.Periods,iv i4]) (h:=ZS eI64 aQ)) (EP.u 0 (Zal (sz:=1) (off:=0) (cs:=[.int .i64 bp]) (r:=iv bp) eI64 aQ) (EP.f kr)))
   clear hj
   rintro s hR
   obtain rfl:=hR
   refine tq (it h (λbi h=>?_) (λbi h=>?_))
   ·refine sq (rg ZJ.f (tq (rt (br (tr ?_)))))
    cases h
    exact ⟨_,rfl,rfl,Zaj kr⟩
   refine sk (bn (tq (kq (rg ZJ.f ?_))))
   cases h
   exact ⟨_,rfl,kr⟩
  refine kq (xq (tx ?_))
  cases h
  exact ⟨_,rfl,rfl,kr⟩
 rintro e s hq
 rcases b2 with bE|bC
 ·dsimp only at h hq
  obtain ⟨rfl,hR⟩:=hq
  obtain rfl:=hR
  refine bx (tq (sq ?_))
  obtain ⟨b1,bb,h⟩:=bs h
  obtain ⟨aK,b0,aS,aV⟩:=Zb5 N a2_    [] (HP.now (HP.pick hH [] rfl)) b1 bb
  replace hH:HP _ [.arr aK 1 false (List.map eI64 b1)]:=HP.callee (fp:=[]) (rest:=[]) (HP.pick hH [] rfl) aV
  have ae:=Za7 (HP.get hH 0 rfl)
  refine rgS ⟨[(1,ZK false a1_),(3,.loc 3 0),(12,aK)],[(3,(ZI a0_))],b0⟩ (ZJ.v 1 (ZiK (H:=[]) (ys:=[Zaf false a2_]) kr kr [[]] (ZhE (Zif rfl) passL_nil') aS) ZJ.f) (by cases ae<;>kernel_rfl) (tq (sq (rgS ⟨[(1,ZK false a1_),(3,.loc 3 0),(12,aK),(13,iv 0)],[(3,(ZI a0_))],b0⟩ ZJ.f (by cases ae<;>kernel_rfl) (tq (sq (Zhd (tq (sq (bk ?_)))))))))
  obtain ⟨ba,aj,h⟩:=bs h
  refine ZaO ((Zay (λ(x:Int×(List Int)) s=>∃ (a4:AV) (a7:List HO),s=⟨[(1,ZK false a1_),(3,.loc 3 0),(12,a4),(13,iv x.1)],[(3,(ZI a0_))],a7⟩/\HP a7 [.arr a4 1 false (List.map eI64 x.2)]) (λx:Int×(List Int)=>Zcd N a0_ a1_ x.1 x.2) (λ(p:Int×Int) e s=>e=.exit 2/\(∃ (aB:List HO),s=⟨[(6,iv p.1),(7,iv p.2)],[],aB⟩/\HP aB [])) ?_ N _ ba _ aj ⟨aK,b0,(by show _=_;cases ae<;>kernel_rfl),(HP.pick hH [0] rfl)⟩).mono ?_)
  ·clear h aj
   rintro ⟨a9,ab⟩ o s h hR
   obtain ⟨a4,a7,rfl,hH⟩:=hR
   replace hH:HP _ [.arr a4 1 false (List.map eI64 ab)]:=hH
   have a0:=Za7 (HP.get hH 0 rfl)
   replace h:Zcd N a0_ a1_ a9 ab=some o:=h
   unfold Zcd at h
   refine bk (sq ?_)
   obtain ⟨a8,ax,h⟩:=bs h
   refine rgS ⟨[(1,ZK false a1_),(3,.loc 3 0),(6,iv a8.Stream),(12,a4),(13,iv a9)],[(3,(ZI a0_))],a7⟩ (ZJ.u 2 (Z0 (ys:=[ZK false a1_,iv a9]) (h:=ZS Z2 ax)) (ZJ.u 1 (Zal (sz:=2) (off:=0) (cs:=[.int .i64 a8.Stream]) (r:=iv a8.Stream) Z2 ax) ZJ.f)) (by cases a0<;>kernel_rfl) (tq (sq ?_))
   obtain ⟨a1,aw,h⟩:=bs h
   obtain ⟨bB,bu,_,be,aG,bf,ap⟩:=HP.elem (k:=0) (a:=a4) (sz:=1) (frz:=false) eI64 hH rfl aw
   refine rgS ⟨[(1,ZK false a1_),(3,.loc 3 0),(6,iv a8.Stream),(12,a4),(13,iv a9),(14,iv a1)],[(3,(ZI a0_))],a7⟩ (ZJ.u 2 (Z0 (ys:=[a4,iv a8.Stream]) (by cases a0<;>kernel_rfl) (ap .i64)) (ZJ.u 0 (Zer (H:=a7) (off:=0) (cs:=[.int .i64 a1]) (r:=iv a1) eI64 aw aG) ZJ.f)) (by cases a0<;>kernel_rfl) (tq (sq ?_))
   obtain ⟨af,av,h⟩:=bs h
   obtain ⟨a5,aU,h⟩:=bs h
   refine rgS ⟨[(1,ZK false a1_),(3,.loc 3 0),(6,iv a8.Stream),(12,a4),(13,iv a9),(14,iv a1),(15,.loc 15 0)],[(3,(ZI a0_)),(15,(ZaC a5))],a7⟩ (ZJ.u 2 (Z0 (ys:=[ZK false a1_,iv a9]) (h:=ZS Z2 av)) (ZJ.u 0 (Zal (sz:=2) (off:=0) (cs:=[.int .i64 af.Stream,.sl 4 false (List.map Zan af.Arms)]) (r:=.agg (ZaE af)) Z2 av) (ZJ.v 1 (Z9 (hc:=Zgk N af a1 a5 aU)) (ZJ.f (h:=(by cases a0<;>kernel_rfl)))))) (by cases a0<;>kernel_rfl) (tq (sq (rgS ⟨[(1,ZK false a1_),(3,.loc 3 0),(6,iv a8.Stream),(12,a4),(13,iv a9),(14,iv a1),(15,.loc 15 0),(66,iv a5.By)],[(3,(ZI a0_)),(15,(ZaC a5))],a7⟩ ZJ.f (by cases a0<;>kernel_rfl) (tq (bk (sq (rgS ⟨[(1,ZK false a1_),(3,.loc 3 0),(6,iv a8.Stream),(12,a4),(13,iv a9),(14,iv a1),(15,.loc 15 0),(66,iv a5.By),(69,bv (a5.By==(-2)))],[(3,(ZI a0_)),(15,(ZaC a5))],a7⟩ ZJ.f (by cases a0<;>kernel_rfl) (tq (it h (λaY h=>?_) (λaY h=>?_))))))))))
   ·refine sq ?_
    have aC:=HP.len (k:=0) (a:=a4) (sz:=1) (frz:=false) (l:=ab) eI64 hH rfl
    refine rgS ⟨[(1,ZK false a1_),(3,.loc 3 0),(12,a4),(13,iv a9),(14,iv a1),(72,iv ((List.length ab:Nat):Int)),(73,iv 0)],[(3,(ZI a0_))],a7⟩ (ZJ.u 1 (Z0 (ys:=[a4]) (by cases a0<;>kernel_rfl) aC) ZJ.f) (by cases a0<;>kernel_rfl) (tq (bk ?_))
    obtain ⟨aL,ak,h⟩:=bs h
    refine ZaO ((Zay (λ(x:Int×(List Int)) s=>∃ (a2:AV) (aa:List HO),s=⟨[(1,ZK false a1_),(3,.loc 3 0),(12,a2),(13,iv a9),(14,iv a1),(72,iv ((List.length ab:Nat):Int)),(73,iv x.1)],[(3,(ZI a0_))],aa⟩/\HP aa [.arr a2 1 false (List.map eI64 x.2)]) (λx:Int×(List Int)=>Zcc N a0_ ab a1 x.1 x.2) (λ(p:(List Int)) e s=>e=.exit 5/\(∃ (ad:AV) (ag:List HO),s=⟨[(1,ZK false a1_),(3,.loc 3 0),(12,ad),(13,iv a9)],[(3,(ZI a0_))],ag⟩/\HP ag [.arr ad 1 false (List.map eI64 p)])) ?_ N _ aL _ ak ⟨a4,a7,(by show _=_;cases a0<;>kernel_rfl),(HP.pick hH [0] rfl)⟩).mono ?_)
    ·clear h ak
     rintro ⟨a6,ai⟩ o s h hR
     obtain ⟨a2,aa,rfl,hH⟩:=hR
     replace hH:HP _ [.arr a2 1 false (List.map eI64 ai)]:=hH
     have a3:=Za7 (HP.get hH 0 rfl)
     replace h:Zcc N a0_ ab a1 a6 ai=some o:=h
     unfold Zcc at h
     refine sq (rgS ⟨[(1,ZK false a1_),(3,.loc 3 0),(12,a2),(13,iv a9),(14,iv a1),(72,iv ((List.length ab:Nat):Int)),(73,iv a6),(74,bv (decide (a6<((List.length ab:Nat):Int))))],[(3,(ZI a0_))],aa⟩ ZJ.f (by cases a3<;>kernel_rfl) (tq (sq (it h (λaX h=>?_) (λaX h=>?_)))))
     ·refine sk (tq (kq (sq (bk (sq (rgS ⟨[(1,ZK false a1_),(3,.loc 3 0),(12,a2),(13,iv a9),(14,iv a1),(16,iv a6),(72,iv ((List.length ab:Nat):Int)),(73,iv a6)],[(3,(ZI a0_))],aa⟩ ZJ.f (by cases a3<;>kernel_rfl) (tq ?_)))))))
      obtain ⟨az,au,h⟩:=bs h
      obtain ⟨bA,bt,_,bc,aE,bd,ao⟩:=HP.elem (k:=0) (a:=a2) (sz:=1) (frz:=false) eI64 hH rfl au
      obtain ⟨ay,ar,h⟩:=bs h
      obtain ⟨ac,aT,h⟩:=bs h
      obtain ⟨bD,aq,h⟩:=bs h
      obtain ⟨bz,bq,_,am,aD,an,al⟩:=HP.elem (k:=0) (a:=a2) (sz:=1) (frz:=false) eI64 hH rfl aq
      obtain ⟨aA,aZ,hH⟩:=HP.setRow (k:=0) (off:=0) (cs:=[iv ac]) (ps:=[.int .i64 ac]) (e':=ac) eI64 hH rfl an aD (am rfl) aq kr kr
      replace hH:HP _ [.arr a2 1 false (List.map eI64 (List.set ai (Int.toNat a6) ac))]:=hH
      refine rqS ⟨[(1,ZK false a1_),(3,.loc 3 0),(12,a2),(13,iv a9),(14,iv a1),(72,iv ((List.length ab:Nat):Int)),(73,iv a6)],[(3,(ZI a0_))],aA⟩ (ZJ.u 4 (Z0 (ys:=[a2,iv a6]) (by cases a3<;>kernel_rfl) (ao .i64)) (ZJ.u 0 (Zbo (Zer (H:=aa) (off:=0) (cs:=[.int .i64 az]) (r:=iv az) eI64 au aE)) (ZJ.u 5 (Z0 (ys:=[Zaf false a0_.Periods,iv a6]) (h:=ZS eI64 ar)) (ZJ.u 0 (Zbo (Zal (sz:=1) (off:=0) (cs:=[.int .i64 ay]) (r:=iv ay) eI64 ar)) (ZJ.u 0 (ZaS (hc:=Zd7 N (w64 (az-a1)) ay ac aT)) (ZJ.u 0 (Z0 (ys:=[a2,iv a6]) (by cases a3<;>kernel_rfl) (al .i64)) (ZJ.o 0 (Zjp (Zbp (H:=aa) (v:=iv ac) (hw:=aZ)) kr) ZJ.f))))))) (by cases a3<;>kernel_rfl) (bn (tq (rgS ⟨[(1,ZK false a1_),(3,.loc 3 0),(12,a2),(13,iv a9),(14,iv a1),(72,iv ((List.length ab:Nat):Int)),(73,iv (w64 (a6+1)))],[(3,(ZI a0_))],aA⟩ ZJ.f (by cases a3<;>kernel_rfl) ?_)))
      cases h
      exact ⟨_,rfl,⟨a2,aA,(by show _=_;cases a3<;>kernel_rfl),(HP.pick hH [0] rfl)⟩⟩
     refine kq (xq (tx ?_))
     cases h
     exact ⟨_,rfl,rfl,⟨a2,aa,(by show _=_;cases a3<;>kernel_rfl),(HP.pick hH [0] rfl)⟩⟩
    rintro e s hq
    obtain ⟨rfl,hR⟩:=hq
    obtain ⟨ad,ag,rfl,hH⟩:=hR
    replace hH:HP _ [.arr ad 1 false (List.map eI64 aL)]:=hH
    have aI:=Za7 (HP.get hH 0 rfl)
    refine bx (bn (bn ?_))
    cases h
    exact ⟨_,rfl,⟨ad,ag,(by show _=_;cases aI<;>kernel_rfl),(HP.pick hH [0] rfl)⟩⟩
   refine sq (rgS ⟨[(1,ZK false a1_),(3,.loc 3 0),(6,iv a8.Stream),(12,a4),(15,.loc 15 0),(92,bv (a5.By==(-1)))],[(3,(ZI a0_)),(15,(ZaC a5))],a7⟩ ZJ.f (by cases a0<;>kernel_rfl) (tq (it h (λaW h=>?_) (λaW h=>?_))))
   ·refine rgS ⟨[(1,ZK false a1_),(3,.loc 3 0),(12,a4),(13,iv a5.Next)],[(3,(ZI a0_))],a7⟩ ZJ.f (by cases a0<;>kernel_rfl) (bn (bn ?_))
    cases h
    exact ⟨_,rfl,⟨a4,a7,(by show _=_;cases a0<;>kernel_rfl),(HP.pick hH [0] rfl)⟩⟩
   refine sq (rgS ⟨[(6,iv a8.Stream),(7,iv a5.By)],[],a7⟩ ZJ.f (by cases a0<;>kernel_rfl) ?_)
   replace hH:HP _ []:=HP.pick hH [] rfl
   refine tq (kq (xq (bo (bo ?_))))
   cases h
   exact ⟨_,rfl,rfl,⟨a7,kr,(HP.pick hH [] rfl)⟩⟩
  rintro e s hq
  obtain ⟨rfl,hR⟩:=hq
  obtain ⟨aB,rfl,hH⟩:=hR
  replace hH:HP _ []:=hH
  refine bx (tq (sq (rg ZJ.f (tq (rt (nr ?_))))))
  cases h
  exact Zaj kr
 dsimp only at h hq
 obtain ⟨rfl,hq⟩:=hq
 refine br (tr (nr ?_))
 cases h
 exact hq
theorem Zdk (N:Nat)(r:Bool)(h:Zdw N=some r):PCall Try.prog 12 [] (bv r):=by
 unfold Zdw at h
 have hH  := hp0
 refine Zaw Zpl rfl rfl (Zab _ _ _ ?_) rfl
 refine sq (rg ZJ.f (tq (sq ?_)))
 obtain ⟨r1,hr1,h⟩:=bs h
 refine rg (ZJ.v 0 (Z9 (hc:=Zdl N  r1 hr1)) ZJ.f) (tq (sq ?_))
 obtain ⟨r2,hr2,h⟩:=bs h
 obtain ⟨r3,hr3,h⟩:=bs h
 refine rg (ZJ.v 3 (Z9 (hc:=ZW N 0 ([(ZQ.mk 0 1 (-1) 1),(ZQ.mk 1 2 (-2) 0)]) r2 hr2)) (ZJ.v 2 (Z9 (hc:=ZW N 1 ([(ZQ.mk 0 2 0 0)]) r3 hr3)) ZJ.f)) (tq (sq ?_))
 obtain ⟨r4,hr4,h⟩:=bs h
 refine rg (ZJ.v 2 (Z9 (hc:=ZW N 0 ([(ZQ.mk 0 2 1 0)]) r4 hr4)) ZJ.f) (tq (sq ?_))
 obtain ⟨r5,hr5,h⟩:=bs h
 obtain ⟨r6,hr6,h⟩:=bs h
 refine rg (ZJ.v 3 (Z9 (hc:=ZW N 0 ([(ZQ.mk 0 1 (-1) 1),(ZQ.mk 1 2 (-1) 1)]) r5 hr5)) (ZJ.v 2 (Z9 (hc:=ZW N 1 ([(ZQ.mk 0 2 0 0)]) r6 hr6)) ZJ.f)) (tq (sq ?_))
 obtain ⟨r7,hr7,h⟩:=bs h
 obtain ⟨r8,hr8,h⟩:=bs h
 refine rg (ZJ.v 3 (Z9 (hc:=ZW N 0 ([(ZQ.mk 0 1 (-1) 1),(ZQ.mk 1 2 (-2) 0)]) r7 hr7)) (ZJ.v 2 (Z9 (hc:=ZW N 1 ([(ZQ.mk 0 1 0 0)]) r8 hr8)) ZJ.f)) (tq (sq ?_))
 obtain ⟨r9,hr9,h⟩:=bs h
 refine rg (ZJ.v 3 (Z9 (hc:=Za6 N r1 ([r2,r3]) ([1,1]) r9 hr9)) ZJ.f) (tq (sq ?_))
 obtain ⟨al,hj,h⟩:=bs h
 refine rgR (λs=>s=⟨[(0,bv al)],[],[]⟩) ?_ ?_
 ·clear h
  obtain ⟨a3,a7,hj⟩:=bs hj
  refine (EP.v 2 (Z9 (hc:=Zav N r1 ([r2,r3]) a3 a7)) ?_)
  rcases Zai hj with ⟨ak,hj⟩|⟨a8,hj⟩
  ·refine (EP.u 0 (ZO (c:=(a3==0)) (h:=ak)) ?_)
   obtain ⟨a2,a6,hj⟩:=bs hj
   refine (EP.v 3 (Z9 (hc:=Zav N r1 ([r4]) a2 a6)) ?_)
   rcases Zai hj with ⟨aj,hj⟩|⟨a9,hj⟩
   ·refine (EP.u 0 (ZO (c:=(a2==351)) (h:=aj)) ?_)
    obtain ⟨a1,a5,hj⟩:=bs hj
    refine (EP.v 4 (Z9 (hc:=Zav N r1 ([r5,r6]) a1 a5)) ?_)
    rcases Zai hj with ⟨ai,hj⟩|⟨aa,hj⟩
    ·refine (EP.u 0 (ZO (c:=(a1==350)) (h:=ai)) ?_)
     obtain ⟨a0,a4,hj⟩:=bs hj
     refine (EP.v 4 (Z9 (hc:=Zav N r1 ([r7,r8]) a0 a4)) ?_)
     rcases Zai hj with ⟨ag,hj⟩|⟨ab,hj⟩
     ·refine (EP.u 0 (ZO (c:=(a0==350)) (h:=ag)) ?_)
      rcases Zai hj with ⟨af,hj⟩|⟨ac,hj⟩
      ·refine (EP.u 3 (ZO (c:=(r9.1==1)) (h:=af)) ?_)
       rcases Zai hj with ⟨ae,hj⟩|⟨ad,hj⟩
       ·obtain rfl:=Z4 hj
        exact (EP.u 3 (ZO (c:=(r9.2.1==0)) (h:=ae)) (EP.f kr))
       obtain rfl:=Z4 hj
       exact (EP.u 3 (ZO (c:=(r9.2.1==0)) (h:=ad)) (EP.f kr))
      obtain rfl:=Z4 hj
      exact (EP.u 3 (ZO (c:=(r9.1==1)) (h:=ac)) (EP.f kr))
     obtain rfl:=Z4 hj
     exact (EP.u 0 (ZO (c:=(a0==350)) (h:=ab)) (EP.f kr))
    obtain rfl:=Z4 hj
    exact (EP.u 0 (ZO (c:=(a1==350)) (h:=aa)) (EP.f kr))
   obtain rfl:=Z4 hj
   exact (EP.u 0 (ZO (c:=(a2==351)) (h:=a9)) (EP.f kr))
  obtain rfl:=Z4 hj
  exact (EP.u 0 (ZO (c:=(a3==0)) (h:=a8)) (EP.f kr))
 clear hj
 rintro s hR
 obtain rfl:=hR
 refine tq (rt ?_)
 cases h
 exact Zaj kr
end Go.Sh

