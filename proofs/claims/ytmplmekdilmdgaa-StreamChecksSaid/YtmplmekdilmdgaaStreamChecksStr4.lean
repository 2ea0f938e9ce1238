/- Part of the proof; written by a program out of the texts in wip/. -/
import Derived.Test.YtmplmekdilmdgaaStreamChecksStr3
import Derived.Test.YtmplmekdilmdgaaStreamChecksRd
import Derived.KernelRfl
set_option linter.unusedVariables false
set_option linter.unusedSimpArgs false
namespace Go.Sh
open Go Go.Eng
def T0:Zg:=⟨3,[true,false,true],[⟨0,1,8,5⟩,⟨1,2,8,5⟩]⟩
def U0:ZL:=⟨100,2,10,8000⟩
def S0:Zh:=⟨1,0,2,7,100,20,⟨0,0⟩,10000,[[0,2]]⟩
theorem T0_ok:ZeD T0=true:=by kernel_rfl
theorem U0_ok:Zex U0=true:=by kernel_rfl
theorem S0_ok:ZaH T0 S0=true:=by kernel_rfl
theorem works22 {N:Nat} (hN:200≤N):ZeZ N=some true:=by
 have e1:Zb6 N T0 U0 S0 0=some ([⟨0,0,0,0,800⟩,⟨2,811,819,900,800⟩],0):=(Ziw T0_ok U0_ok S0_ok (k:=0) rfl (by decide) (by decide) hN).trans (by kernel_rfl)
 have e2:ZcO N T0 U0 S0 0=some (1715,0):=(Ziv T0_ok U0_ok S0_ok (k:=0) rfl (by decide) (by decide) hN).trans (by kernel_rfl)
 have e3:Zb6 N T0 U0 S0 1=some ([],2):=(Zi0 (e:=2) ((ZfG 1 hN).trans (by kernel_rfl)) (by decide)).1
 have c1:Zal N T0 ⟨1,0,1,7,100,20,⟨0,0⟩,10000,[[0,2]]⟩=some 321:=(ZcP hN).trans (by kernel_rfl)
 have c2:Zal N T0 ⟨1,0,2,7,83,20,⟨0,0⟩,10000,[[0,2]]⟩=some 321:=(ZcP hN).trans (by kernel_rfl)
 have c3:Zal N T0 ⟨1,0,2,7,100,20,⟨0,0⟩,10000,[[2,0]]⟩=some 321:=(ZcP hN).trans (by kernel_rfl)
 have c4:Zal N T0 S0=some 0:=(ZcP hN).trans (by kernel_rfl)
 have c5:ZaF N T0 [S0,S0]=some 322:=(ZbW _ hN).trans (by kernel_rfl)
 unfold ZeZ ZgH ZfQ ZdM
 simp only [Option.bind_some]
 unfold T0 U0 S0 at e1 e2 e3
 unfold T0 at c1 c2 c3
 unfold T0 S0 at c4 c5
 simp only [e1,e2,e3,c1,c2,c3,c4,c5,Option.bind_some]
 rfl
section
variable {N:Nat} {t:Zg} {u:ZL} {s:Zh}
theorem SDOK.of {d:ZaK} (h:Zfr d):SDOK d:=by
 obtain ⟨_,_,h1,h2,h3,h4,h5,h6⟩:=h
 refine ⟨Zdy h1,Zdy h2,Zdy h3,Zdy h4,Zdy h5,?_⟩
 simpa [InK,Lit.wf,IntKind.min,IntKind.max,IntKind.signed,IntKind.bits] using h6
structure Cs (N:Nat) (c:Zcl) (t:Zg) (u:ZL) (l:List Zh):Prop where
 topo:Zbp N c.T=some t
 tB:ZeD t=true
 setup:ZdI N c.U.x0 c.U.x1 c.U.x2=some u
 uB:Zex u=true
 str:Zc4 N t c.L=some l
 sl:SL t l
theorem case_ok {c:Zcl} (hc:ZeG c) (hN:200+c.L.length≤N):∃ t u l,Cs N c t u l:=by
 obtain ⟨h1,⟨h2,h3⟩,h4,_⟩:=hc
 obtain ⟨t,t1,t2,t3⟩:=ZnS (N:=N) (DOK.of h1) (by omega)
 obtain ⟨u,u1,u2⟩:=Zhl (N:=N) (Zdy h4.1) (Zdy h4.2.1) (Zdy h4.2.2)
 obtain ⟨l,l1,l2⟩:=Zhk (N:=N) t2 t3 (fun d hd=>SDOK.of (h3 d hd)) h2 hN
 exact ⟨t,u,l,t1,Za1.2 t2,u1,u2,l1,l2⟩
end
end Go.Sh

