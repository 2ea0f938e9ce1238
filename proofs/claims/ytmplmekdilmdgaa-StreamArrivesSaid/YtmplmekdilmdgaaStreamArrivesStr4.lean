/- Part of the proof; written by a program out of the texts in wip/. -/
import Derived.Test.YtmplmekdilmdgaaStreamArrivesStr3
import Derived.Test.YtmplmekdilmdgaaStreamArrivesRd
import Derived.KernelRfl
set_option linter.unusedVariables false
set_option linter.unusedSimpArgs false
namespace Go.Sh
open Go Go.Eng
def T0:Ze:=⟨3,[true,false,true],[⟨0,1,8,5⟩,⟨1,2,8,5⟩]⟩
def U0:ZL:=⟨100,2,10,8000⟩
def S0:Zh:=⟨1,0,2,7,100,20,⟨0,0⟩,10000,[[0,2]]⟩
theorem T0_ok:ZeL T0=true:=by kernel_rfl
theorem U0_ok:ZeO U0=true:=by kernel_rfl
theorem S0_ok:ZaS T0 S0=true:=by kernel_rfl
theorem works22 {N:Nat} (hN:200≤N):Zef N=some true:=by
 have e1:Zbo N T0 U0 S0 0=some ([⟨0,0,0,0,800⟩,⟨2,811,819,900,800⟩],0):=(Zfl T0_ok U0_ok S0_ok (k:=0) rfl (by decide) (by decide) hN).trans (by kernel_rfl)
 have e2:Zb0 N T0 U0 S0 0=some (1715,0):=(Zfk T0_ok U0_ok S0_ok (k:=0) rfl (by decide) (by decide) hN).trans (by kernel_rfl)
 have e3:Zbo N T0 U0 S0 1=some ([],2):=(Zim (e:=2) ((Ze0 1 hN).trans (by kernel_rfl)) (by decide)).1
 have c1:ZaM N T0 ⟨1,0,1,7,100,20,⟨0,0⟩,10000,[[0,2]]⟩=some 321:=(Zc9 hN).trans (by kernel_rfl)
 have c2:ZaM N T0 ⟨1,0,2,7,83,20,⟨0,0⟩,10000,[[0,2]]⟩=some 321:=(Zc9 hN).trans (by kernel_rfl)
 have c3:ZaM N T0 ⟨1,0,2,7,100,20,⟨0,0⟩,10000,[[2,0]]⟩=some 321:=(Zc9 hN).trans (by kernel_rfl)
 have c4:ZaM N T0 S0=some 0:=(Zc9 hN).trans (by kernel_rfl)
 have c5:ZbN N T0 [S0,S0]=some 322:=(ZgD _ hN).trans (by kernel_rfl)
 unfold Zef ZfZ Ze7 Zdf
 simp only [Option.bind_some]
 unfold T0 U0 S0 at e1 e2 e3
 unfold T0 at c1 c2 c3
 unfold T0 S0 at c4 c5
 simp only [e1,e2,e3,c1,c2,c3,c4,c5,Option.bind_some]
 rfl
section
variable {N:Nat} {t:Ze} {u:ZL} {s:Zh}
theorem Zms {α:Type} {n k:Nat} (f:Nat→α) (h:k<n):idx ((List.range n).map f) (k:Int)=some (f k):=by
 rw [Zcl (by simpa using h)]
 simp
theorem Zox (g:Good t) (hu:ZkG u) (hs:ZhT s) {r:List Int} (hp:∀ k,k<r.length→ZbT t (at0 r k)=true) {k:Nat} (hk:k+1<r.length) :
  (ZO t u s r (k+1)).Early=Zaz t u (ZO t u s r k) - 2 * u.Slack∧(ZO t u s r (k+1)).Late=Zaz t u (ZO t u s r k)+2 * u.Slack ∧
  (ZO t u s r (k+1)).Late≤(ZO t u s r (k+1)).Open∧(ZO t u s r (k+1)).Open<(ZO t u s r (k+1)).Late+u.Grid∧(ZO t u s r (k+1)).Open % u.Grid=0∧(ZO t u s r k).Open<(ZO t u s r (k+1)).Open:=by
 have hb:=Zfb g hu hs hp k (by omega)
 obtain ⟨o1,o2,o3⟩:=hb.told g hu
 have h0:=hb.op1
 have c:=ZkA hu (x:=Zaz t u (ZO t u s r k)+2 * u.Slack) (by have:=hu.s1;omega)
 have:=hu.s1
 refine ⟨rfl,rfl,c.1,c.2.1,c.2.2,?_⟩
 show _<Zi3 u (Zaz t u (ZO t u s r k)+2 * u.Slack)
 omega
theorem Zm3 (g:Good t) (hu:ZkG u) (hs:ZhT s) {r:List Int} (hp:∀ k,k<r.length→ZbT t (at0 r k)=true) (h8:r.length≤8) {k:Nat} (hk:k<r.length) :
  0≤(ZO t u s r k).Open∧(ZO t u s r k).Open≤20000000∧0≤Zaz t u (ZO t u s r k)∧Zaz t u (ZO t u s r k)≤20000000:=by
 have hb:=Zfb g hu hs hp k hk
 obtain ⟨o1,o2,o3⟩:=hb.told g hu
 have h0:=hb.op1
 have h1:=hb.op2
 omega
def ways (s:Zh):Nat:=if s.Class=7 then s.Routes.length else 0
theorem ZkJ {l:List Zh} {i:Nat} (hi:i<l.length) {j:Nat} (hj:j≤ways l[i]) :
  ((idx l (i:Int)).bind fun e1012=>(if (decide ((j:Int)<((List.length e1012.Routes:Nat):Int))) then ((idx l (i:Int)).bind fun e1014=>(some (e1014.Class==7))) else (some false)))=some (decide (j<ways l[i])):=by
 rw [Zcl hi]
 simp only [Option.bind_some]
 unfold ways at hj ⊢
 by_cases hc:l[i].Class=7
 ·rw [if_pos hc] at hj ⊢
  by_cases h:j<l[i].Routes.length
  ·rw [if_pos (by simp;omega),hc,decide_eq_true h];rfl
  ·rw [if_neg (by simp;omega),decide_eq_false h]
 ·rw [if_neg hc] at hj ⊢
  have e7:(l[i].Class==7)=false:=by simpa using hc
  rw [e7]
  by_cases h:j<l[i].Routes.length
  ·rw [if_pos (by simp;omega)];simp
  ·rw [if_neg (by simp;omega)];simp
theorem ways_lt {s:Zh} {j:Nat} (h:j<ways s):s.Class=7∧j<s.Routes.length:=by
 unfold ways at h
 by_cases hc:s.Class=7
 ·rw [if_pos hc] at h;exact ⟨hc,h⟩
 ·rw [if_neg hc] at h;omega
theorem ways_le (h:ZaS t s=true):ways s≤2:=by
 have:=(Zgc h).1.2
 unfold ways
 split<;>omega
theorem SDOK.of {d:ZaC} (h:ZeH d):SDOK d:=by
 obtain ⟨_,_,h1,h2,h3,h4,h5,h6⟩:=h
 refine ⟨Zdg h1,Zdg h2,Zdg h3,Zdg h4,Zdg h5,?_⟩
 simpa [InK,Lit.wf,IntKind.min,IntKind.max,IntKind.signed,IntKind.bits] using h6
structure Cs (N:Nat) (c:Zc2) (t:Ze) (u:ZL) (l:List Zh):Prop where
 topo:Za5 N c.T=some t
 tB:ZeL t=true
 setup:Zdc N c.U.x0 c.U.x1 c.U.x2=some u
 uB:ZeO u=true
 str:ZcD N t c.L=some l
 sl:SL t l
theorem case_ok {c:Zc2} (hc:Zfi c) (hN:200+c.L.length≤N):∃ t u l,Cs N c t u l:=by
 obtain ⟨h1,⟨h2,h3⟩,h4,_⟩:=hc
 obtain ⟨t,t1,t2,t3⟩:=Zm7 (N:=N) (DOK.of h1) (by omega)
 obtain ⟨u,u1,u2⟩:=ZgJ (N:=N) (Zdg h4.1) (Zdg h4.2.1) (Zdg h4.2.2)
 obtain ⟨l,l1,l2⟩:=ZgI (N:=N) t2 t3 (fun d hd=>SDOK.of (h3 d hd)) h2 hN
 exact ⟨t,u,l,t1,Za1.2 t2,u1,u2,l1,l2⟩
theorem ZmA {S v:Int} (h:0≤S) (h2:S≤1000):∃ a,(if (if S<v then S else v) > w64 (0 - S) then (if S<v then S else v) else w64 (0 - S))=a ∧ -S≤a∧a≤S:=by
 rw [ZR (x:=0 - S) (by omega) (by omega)]
 refine ⟨_,rfl,?_,?_⟩<;>split<;>split<;>omega
theorem ZmD (v:Zcx) (k:Nat) (hk:k<1000):∃ x,v.get (Int.tmod (k:Int) 9)=some x:=by
 unfold Zcx.get
 rw [Int.tmod_eq_emod_of_nonneg (by omega)]
 have h1:=Int.emod_nonneg (k:Int) (show (9:Int) ≠ 0 by decide)
 have h2:=Int.emod_lt_of_pos (k:Int) (show (0:Int)<9 by decide)
 have hl:v.l.length=9:=rfl
 exact ⟨_,ZiR h1 (by rw [hl];omega)⟩
theorem Zna (g:Good t) (hu:ZkG u) {l:List Zh} {i:Nat} (hi:i<l.length) (hs:ZhT l[i]) {j:Nat} {r:List Int} (hr:idx l[i].Routes (j:Int)=some r) (hv:ZaA t r=true) (v:Zcx) (e e':Int) (hN:200≤N) :
  Zae (fun x:Int=>Zaa N v t u l (i:Int) (j:Int) ((List.range r.length).map (ZO t u l[i] r),e) (Zaz t u (ZO t u l[i] r (r.length - 1)),e') x) N 0=some (.inl ()):=by
 obtain ⟨h1,h8,hp⟩:=Zcj hv
 have hL:t.Links.length≤1000:=by have:=g.l24;omega
 have:=Zho (n:=r.length) (body:=fun x:Int=>Zaa N v t u l (i:Int) (j:Int) ((List.range r.length).map (ZO t u l[i] r),e) (Zaz t u (ZO t u l[i] r (r.length - 1)),e') x) (fin:=.inl ()) 0 (fun k _ hk=>by
  simp only [Zaa]
  have hb:=Zfb g hu hs hp k hk
  obtain ⟨b1,b2,b3,b4⟩:=Zm3 g hu hs hp h8 hk
  obtain ⟨_,_,d1,d2⟩:=ZeT g hb.port
  have lo1:=hb.long1
  have lo2:=hb.long2
  have s1:=hu.s1;have s2:=hu.s2;have g1:=hu.g1;have g2:=hu.g2;have p1:=hu.p1;have p2:=hu.p2
  obtain ⟨x1,e1⟩:=ZmD v k (by omega)
  rw [if_pos (by simp;omega),Zms _ hk,Option.bind_some,ZiF hL hb.port,Option.bind_some,e1,Option.bind_some,Option.bind_some,Zcl hi,Option.bind_some,Option.bind_some,Option.bind_some,hr,Option.bind_some,Zcl hk,Option.bind_some]
  obtain ⟨a,ha,a1,a2⟩:=ZmA (v:=w64 x1) s1 s2
  rw [ha]
  have hlong:l[i].Size * (plk t (ZO t u l[i] r k).Port).Per=(ZO t u l[i] r k).Long:=by rw [ZjI,Zhp]
  have htold:(ZO t u l[i] r k).Open+(ZO t u l[i] r k).Long+(plk t (ZO t u l[i] r k).Port).Delay+u.Proc=Zaz t u (ZO t u l[i] r k):=rfl
  rw [hlong]
  generalize hD:(plk t (ZO t u l[i] r k).Port).Delay=D at d1 d2 htold
  have w1:w64 ((ZO t u l[i] r k).Open - a)=(ZO t u l[i] r k).Open - a:=ZR (by omega) (by omega)
  have w2:w64 (ZO t u l[i] r k).Long=(ZO t u l[i] r k).Long:=ZR (by omega) (by omega)
  rw [w1,w2]
  have w3:w64 ((ZO t u l[i] r k).Open - a+(ZO t u l[i] r k).Long)=(ZO t u l[i] r k).Open - a+(ZO t u l[i] r k).Long:=ZR (by omega) (by omega)
  rw [w3]
  have w4:w64 ((ZO t u l[i] r k).Open - a+(ZO t u l[i] r k).Long+D)=(ZO t u l[i] r k).Open - a+(ZO t u l[i] r k).Long+D:=ZR (by omega) (by omega)
  rw [w4]
  have w5:w64 ((ZO t u l[i] r k).Open - a+(ZO t u l[i] r k).Long+D+u.Proc)=Zaz t u (ZO t u l[i] r k) - a:=by rw [ZR (by omega) (by omega)];omega
  rw [w5]
  have hport:((ZO t u l[i] r k).Port != r[k])=false:=by rw [Zhp,Zgx hk];simp
  rw [hport]
  simp only [Bool.false_eq_true,if_false,List.length_map,List.length_range]
  have hlast:(if ((k:Int)==w64 (((r.length:Nat):Int) - 1))=true then some (Zaz t u (ZO t u l[i] r k) - a != w64 (Zaz t u (ZO t u l[i] r (r.length - 1)) - a)) else some false)=some false:=by
   by_cases hk1:k=r.length - 1
   ·rw [if_pos (by rw [ZR (by omega) (by omega),beq_iff_eq];omega),← hk1,ZR (by omega) (by omega)];simp
   ·rw [if_neg (by rw [ZR (by omega) (by omega),beq_iff_eq];omega)]
  rw [hlast,Option.bind_some,if_neg (by simp),Z1 (by omega)]
  by_cases hk1:k+1<r.length
  ·obtain ⟨n1,n2,n3,n4,n5,n6⟩:=Zox g hu hs hp hk1
   obtain ⟨x2,e2⟩:=ZmD v (k+1) (by omega)
   rw [if_pos (by simp;omega),Zms _ hk1,Option.bind_some,e2,Option.bind_some]
   obtain ⟨b,hb',c1,c2⟩:=ZmA (v:=w64 x2) s1 s2
   rw [hb',ZR (x:=Zaz t u (ZO t u l[i] r k) - a+b) (by omega) (by omega),if_neg]
   simp only [Bool.or_eq_true,decide_eq_true_eq]
   omega
  ·rw [if_neg (by simp;omega)]) (by
  simp only [Zaa]
  rw [if_neg (by simp)]) (Nat.zero_le _) (N:=N) (by omega)
 exact this
theorem Znb (hT:ZeL t=true) (hU:ZeO u=true) {l:List Zh} {i:Nat} (hi:i<l.length) (hs:ZaS t l[i]=true) (v:Zcx) (hN:200≤N) :
  Zae (fun x:Int=>Zab N v t u l (i:Int) x) N 0=some (.inl ()):=by
 have hw:=ways_le hs
 have:=Zho (n:=ways l[i]) (body:=fun x:Int=>Zab N v t u l (i:Int) x) (fin:=.inl ()) 0 (fun j _ hj=>by
  simp only [Zab]
  obtain ⟨hc,hjr⟩:=ways_lt hj
  obtain ⟨q1,q2⟩:=Ziz hs (k:=(j:Int)) (by omega) (by omega)
  rw [ZkJ hi (by omega),Option.bind_some,decide_eq_true hj,if_pos rfl,Zcl hi]
  simp only [Option.bind_some]
  rw [Zfl hT hU hs hc (by omega) (by omega) hN,Option.bind_some,Zfk hT hU hs hc (by omega) (by omega) hN,Option.bind_some,q1]
  simp only [bne_self_eq_false,Bool.false_eq_true,if_false,Option.bind_some,List.length_map,List.length_range]
  rw [Zna (Za1.1 hT) (Zd8 hU) hi (Zeo hs) q1 q2 v 0 0 hN,Option.bind_some,Z1 (by omega)]) (by
  simp only [Zab]
  rw [ZkJ hi (Nat.le_refl _)]
  simp) (Nat.zero_le _) (N:=N) (by omega)
 exact this
theorem StreamArrives_law (c:Zc2) (v:Zcx) (hc:Zfi c) (_:ZjZ v):∃ N,Zb5 N c v=some true:=by
 refine ⟨200+c.L.length,?_⟩
 obtain ⟨t,u,l,h⟩:=case_ok (N:=200+c.L.length) hc (Nat.le_refl _)
 have h6:=h.sl.len
 unfold Zb5
 rw [works22 (by omega),Option.bind_some,if_neg (by simp),h.topo,Option.bind_some,h.setup,Option.bind_some,h.str,Option.bind_some]
 have:=Zho (n:=l.length) (body:=fun x:Int=>Zan (200+c.L.length) v t u l x) (fin:=.inl ()) 0 (fun k _ hk=>by
  simp only [Zan]
  have hs:=(h.sl.ok k hk).1
  rw [Zc4 hk] at hs
  rw [if_pos (by simp;omega),Znb h.tB h.uB hk hs v (by omega),Option.bind_some,Z1 (by omega)]) (by
  simp only [Zan]
  rw [if_neg (by simp)]) (Nat.zero_le _) (N:=200+c.L.length) (by omega)
 rw [show (0:Int)=((0:Nat):Int) from rfl,this]
 rfl
end
end Go.Sh

