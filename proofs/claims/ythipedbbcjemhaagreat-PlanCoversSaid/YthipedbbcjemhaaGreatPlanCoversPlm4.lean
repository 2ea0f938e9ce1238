/- Part of the proof; written by a program out of the texts in wip/. -/
import Derived.Test.YthipedbbcjemhaaGreatPlanCoversStr4
set_option linter.unusedVariables false
set_option linter.unusedSimpArgs false
namespace Go.Sh
open Go Go.Eng
section
variable {N:Nat} {t:Zh} {u:ZE} {s:Zj}
theorem ZqP (a:Ac) (x:Zj):∃ P' U',(ZfP t u a x).P=a.P++P'∧(ZfP t u a x).U=a.U++U':=by
 unfold ZfP
 by_cases c:x.Class=7
 ·rw [if_pos c];exact ⟨_,_,rfl,rfl⟩
 ·rw [if_neg c];exact ⟨[],[],by simp,by simp⟩
theorem ZoS:∀ (l:List Zj) (a:Ac),∃ P' U',(l.foldl (ZfP t u) a).P=a.P++P'∧(l.foldl (ZfP t u) a).U=a.U++U'
 | [],a=>⟨[],[],by simp,by simp⟩
 | x::l,a=>by
  obtain ⟨P1,U1,h1,h2⟩:=ZqP (t:=t) (u:=u) a x
  obtain ⟨P2,U2,h3,h4⟩:=ZoS l (ZfP t u a x)
  exact ⟨P1++P2,U1++U2,by rw [List.foldl_cons,h3,h1,List.append_assoc],by rw [List.foldl_cons,h4,h2,List.append_assoc]⟩
theorem acc_pre (l:List Zj) (k:Nat):∃ P' U',(accA t u l).P=(accA t u (l.take k)).P++P'∧(accA t u l).U=(accA t u (l.take k)).U++U':=by
 unfold accA
 have:=ZoS (t:=t) (u:=u) (l.drop k) ((l.take k).foldl (ZfP t u) ⟨false,[],[]⟩)
 rwa [← List.foldl_append,List.take_append_drop] at this
theorem ZnK:∀ (l:List Zj) (a:Ac),(l.foldl (ZfP t u) a).late=false→a.late=false∧∀ x ∈ l,x.Class=7→∀ r ∈ x.Routes,ZmI t u x r=false
 | [],a,h=>⟨h,by simp⟩
 | x::l,a,h=>by
  obtain ⟨h1,h2⟩:=ZnK l _ h
  unfold ZfP at h1
  by_cases c:x.Class=7
  ·rw [if_pos c] at h1
   simp only [Bool.or_eq_false_iff,List.any_eq_false] at h1
   refine ⟨h1.1,fun y hy hc r hr => ?_⟩
   rcases List.mem_cons.1 hy with rfl | hy
   ·simpa using h1.2 r hr
   ·exact h2 y hy hc r hr
  ·rw [if_neg c] at h1
   refine ⟨h1,fun y hy hc r hr => ?_⟩
   rcases List.mem_cons.1 hy with rfl | hy
   ·exact absurd hc c
   ·exact h2 y hy hc r hr
theorem Zri (a:Ac):errC a=0∨errC a=6∨errC a=7∨errC a=341∨errC a=342:=by
 unfold errC
 repeat' split
 all_goals simp
theorem ZnM {a:Ac} (h:errC a=0):lcmL a.P≤960∧Zl8 a.P a.U=false∧a.late=false:=by
 unfold errC at h
 by_cases c:lcmL a.P≤960
 ·rw [if_pos c] at h
  by_cases d:Zqm a.P (lcmL a.P) a.U=true
  ·rw [if_pos d] at h;omega
  ·rw [if_neg d] at h
   by_cases e:Zl8 a.P a.U=true
   ·rw [if_pos e] at h;omega
   ·rw [if_neg e] at h
    by_cases f:a.late=true
    ·rw [if_pos f] at h;omega
    ·exact ⟨c,by simpa using e,by simpa using f⟩
 ·rw [if_neg c] at h;omega
theorem Zp2 (g:Good t) {a:Ac} {n:Nat} (h:AcOK t u n a) (hn:n≤12) (he:errC a=0):Zp3 ⟨a.P,a.U⟩=true:=by
 obtain ⟨h1,h2,h3,h4,h5,h6,h7⟩:=h
 obtain ⟨e1,e2,e3⟩:=ZnM he
 refine Zp1.2 ⟨by simp only;omega,by simp only;omega,h3,?_,e1⟩
 rw [List.all_eq_true]
 intro x hx
 have p:=h5 x hx
 have hl:=g.l24
 simp only [ZbS,Bool.and_eq_true,decide_eq_true_eq] at p
 have w:x.Long≤perU a.P x:=by
  unfold Zl8 at e2
  rw [List.any_eq_false] at e2
  have:=e2 x hx
  simp only [decide_eq_true_eq] at this
  omega
 obtain ⟨s1,s2⟩:=h4 x hx
 obtain ⟨f1,f2⟩:=h6 x hx
 obtain ⟨l1,_⟩:=h7 x hx
 exact ZjO.2 ⟨s1,s2,by omega,by omega,f1,f2,l1,w⟩
theorem Zhp {x G B:Int} (hG:1≤G) (hG2:G≤10000) (h1 : -B≤x) (h2:x≤B) (hB:0≤B) : -(B * 10000)≤x * G∧x * G≤B * 10000:=by
 have a:x * G≤B * G:=Int.mul_le_mul_of_nonneg_right h2 (by omega)
 have b : -B * G≤x * G:=Int.mul_le_mul_of_nonneg_right h1 (by omega)
 have c:B * G≤B * 10000:=Int.mul_le_mul_of_nonneg_left hG2 hB
 rw [Int.neg_mul] at b
 omega
theorem Zpz {hs:(List ZR) × Int} {i:Nat} {h:ZR} (hi:idx hs.1 (i:Int)=some h) (hu:ZgH u) (hn:HN u h) (p1:1≤s.Period) (p2:s.Period≤240) (hN:30000000≤N) :
  ∃ x,Z2 (fun x:Int=>ZaS N u s hs (i:Int) x) N ((h.Early / u.Grid) % s.Period)=some x∧x≤h.Early / u.Grid∧s.Period ∣ h.Early / u.Grid - x ∧ -20000000≤x:=by
 have g1:=hu.g1;have g2:=hu.g2
 obtain ⟨e1,e2,_⟩:=hn
 have d1:=Zdv (a:=h.Early) (B:=20000000) g1 (by omega) e2 (by omega)
 have d2 : -2000≤h.Early / u.Grid:=by
  rw [Int.le_ediv_iff_mul_le (by omega),Int.neg_mul]
  have:2000 * 1≤2000 * u.Grid:=Int.mul_le_mul_of_nonneg_left g1 (by omega)
  omega
 have m0:=Int.emod_nonneg (h.Early / u.Grid) (show s.Period ≠ 0 by omega)
 have m1:=Int.emod_lt_of_pos (h.Early / u.Grid) (show 0<s.Period by omega)
 obtain ⟨o,ho,eo⟩:=Zb4 (body:=fun x:Int=>ZaS N u s hs (i:Int) x) (fun x=>s.Period ∣ h.Early / u.Grid - x ∧ -20000000≤x∧x≤240) (fun x=>(x+20000000).toNat)
  (fun x=>x≤h.Early / u.Grid∧s.Period ∣ h.Early / u.Grid - x ∧ -20000000≤x) (fun x hx=>by
   obtain ⟨x1,x2,x3⟩:=hx
   have b:=Zhp (x:=x) (B:=20000000) g1 g2 x2 (by omega) (by omega)
   unfold ZaS
   rw [hi,Option.bind_some,ZP (x:=x * u.Grid) (by omega) (by omega)]
   by_cases c:x * u.Grid > h.Early
   ·left
    have hx:¬ x≤h.Early / u.Grid:=by rw [Int.le_ediv_iff_mul_le (by omega)];omega
    rw [if_pos (by simpa using c),ZP (by omega) (by omega)]
    refine ⟨_,rfl,⟨?_,by omega,by omega⟩,by omega⟩
    rw [show h.Early / u.Grid - (x - s.Period)=h.Early / u.Grid - x+s.Period by omega]
    exact Int.dvd_add x1 (Int.dvd_refl _)
   ·right
    have hx:x≤h.Early / u.Grid:=by rw [Int.le_ediv_iff_mul_le (by omega)];omega
    rw [if_neg (by simpa using c)]
    exact ⟨_,rfl,hx,x1,x2⟩) N ((h.Early / u.Grid) % s.Period) ⟨⟨h.Early / u.Grid / s.Period,by have:=Int.mul_ediv_add_emod (h.Early / u.Grid) s.Period;omega⟩,by omega,by omega⟩ (by omega)
 exact ⟨o,ho,eo⟩
theorem Zrh {hs:(List ZR) × Int} {i:Nat} {h:ZR} (hi:idx hs.1 (i:Int)=some h) (hu:ZgH u) (hn:HN u h) (p1:1≤s.Period) (p2:s.Period≤240) (hN:60000000≤N) {x:Int} (h1:x≤h.Early / u.Grid) (h2:s.Period ∣ h.Early / u.Grid - x) (h3 : -20000000≤x) :
  Z2 (fun x:Int=>ZaR N u s hs (i:Int) x) N x=some (h.Early / u.Grid):=by
 have g1:=hu.g1;have g2:=hu.g2
 obtain ⟨e1,e2,_⟩:=hn
 have d1:=Zdv (a:=h.Early) (B:=20000000) g1 (by omega) e2 (by omega)
 obtain ⟨o,ho,eo⟩:=Zb4 (body:=fun x:Int=>ZaR N u s hs (i:Int) x) (fun x=>x≤h.Early / u.Grid∧s.Period ∣ h.Early / u.Grid - x ∧ -20000000≤x) (fun x=>(20000000 - x).toNat)
  (fun x=>x=h.Early / u.Grid) (fun x hx=>by
   obtain ⟨x1,x2,x3⟩:=hx
   have b:=Zhp (x:=x+s.Period) (B:=20001000) g1 g2 (by omega) (by omega) (by omega)
   unfold ZaR
   rw [hi,Option.bind_some,ZP (x:=x+s.Period) (by omega) (by omega),ZP (x:=(x+s.Period) * u.Grid) (by omega) (by omega)]
   by_cases c:(x+s.Period) * u.Grid≤h.Early
   ·left
    have hx:x+s.Period≤h.Early / u.Grid:=by rw [Int.le_ediv_iff_mul_le (by omega)];exact c
    rw [if_pos (by simpa using c)]
    refine ⟨_,rfl,⟨hx,?_,by omega⟩,by omega⟩
    rw [show h.Early / u.Grid - (x+s.Period)=h.Early / u.Grid - x - s.Period by omega]
    exact Int.dvd_sub x2 (Int.dvd_refl _)
   ·right
    have hx:¬ x+s.Period≤h.Early / u.Grid:=by rw [Int.le_ediv_iff_mul_le (by omega)];exact c
    rw [if_neg (by simpa using c)]
    refine ⟨_,rfl,?_⟩
    obtain ⟨q,hq⟩:=x2
    have hq0:q=0:=by
     rcases Int.lt_trichotomy q 0 with c | c | c
     ·have:s.Period * q≤s.Period * (-1):=Int.mul_le_mul_of_nonneg_left (by omega) (by omega)
      omega
     ·exact c
     ·have:s.Period * 1≤s.Period * q:=Int.mul_le_mul_of_nonneg_left (by omega) (by omega)
      omega
    subst hq0
    omega) N x ⟨h1,h2,h3⟩ (by omega)
 rw [ho,eo]
theorem Zqv (hu:ZgH u) {h:ZR} (hn:HN u h) {n:Int} {P:Int} :
  ¬ (w64 (h.Early - w64 (h.Early / u.Grid * u.Grid)) ≥ u.Grid)∧¬ (w64 (w64 (h.Early / u.Grid+(useH u n P h).Long) * u.Grid)<w64 (h.Open+h.Long))∧¬ (w64 (w64 (w64 (h.Early / u.Grid+(useH u n P h).Long) * u.Grid) - u.Grid) ≥ w64 (h.Open+h.Long)):=by
 have g1:=hu.g1;have g2:=hu.g2
 obtain ⟨e1,e2,o1,o2,l1,l2,_⟩:=hn
 have d1:=Zdv (a:=h.Early) (B:=20000000) g1 (by omega) e2 (by omega)
 have d2:=Zdv (a:=h.Open+h.Long+u.Grid - 1) (B:=22000000) g1 (by omega) (by omega) (by omega)
 have b1:=Zhp (x:=h.Early / u.Grid) g1 g2 d1.1 d1.2 (by omega)
 have b2:=Zhp (x:=(h.Open+h.Long+u.Grid - 1) / u.Grid) g1 g2 d2.1 d2.2 (by omega)
 obtain ⟨c1,c2⟩:=Zhu (a:=h.Early) (G:=u.Grid) (by omega)
 obtain ⟨c3,c4⟩:=Zhu (a:=h.Open+h.Long+u.Grid - 1) (G:=u.Grid) (by omega)
 have e:h.Early / u.Grid+(useH u n P h).Long=(h.Open+h.Long+u.Grid - 1) / u.Grid:=by unfold useH;simp only;omega
 rw [e,ZP (x:=h.Early / u.Grid * u.Grid) (by omega) (by omega),ZP (x:=(h.Open+h.Long+u.Grid - 1) / u.Grid) (by omega) (by omega),ZP (x:=(h.Open+h.Long+u.Grid - 1) / u.Grid * u.Grid) (by omega) (by omega),ZP (x:=h.Open+h.Long) (by omega) (by omega),ZP (x:=h.Early - _) (by omega) (by omega),ZP (x:=(h.Open+h.Long+u.Grid - 1) / u.Grid * u.Grid - u.Grid) (by omega) (by omega)]
 omega
theorem Zqi {α:Type} {A B C:List α} {k:Nat} (hk:k<B.length):idx (A++B++C) ((A.length+k:Nat):Int)=some B[k]:=by
 rw [Zhc,List.append_assoc,List.getElem?_append_right (by omega),Nat.add_sub_cancel_left,List.getElem?_append_left hk,List.getElem?_eq_getElem hk]
theorem Zqs (g:Good t) (hu:ZgH u) (h:SS t s) {r:List Int} (hr:r ∈ s.Routes) {F:Ac} {A:List ZB} {n:Nat} {C:List ZB} (hn:n<F.P.length) (hF:F.U=A++ZbX t u (n:Int) s r++C) (hl:F.U.length≤1000) (hnl:n≤1000) (hN:60000000≤N) :
  Z2 (fun x:Int × Int=>ZaT N u (⟨F.P,F.U⟩,0) (n:Int) s (Zhd t u s r,0) x.1 x.2) N ((A.length:Nat),0)=some (.inl (((A++ZbX t u (n:Int) s r).length:Nat):Int)):=by
 have hs:=ZcU h.str
 have p1:=h.per1;have p2:=h.per2
 have hv:=h.rt r hr
 have hlen:(ZbX t u (n:Int) s r).length=r.length:=by simp [ZbX,Zhd]
 have hhl:(Zhd t u s r).length=r.length:=by simp [Zhd]
 have hUl:F.U.length=A.length+r.length+C.length:=by rw [hF];simp only [List.length_append,hlen]
 obtain ⟨o,ho,eo⟩:=Zb4 (body:=fun x:Int × Int=>ZaT N u (⟨F.P,F.U⟩,0) (n:Int) s (Zhd t u s r,0) x.1 x.2)
  (fun x=>∃ k:Nat,x=(((A.length+k:Nat):Int),(k:Int))∧k≤r.length) (fun x=>(r.length - x.2).toNat) (fun x=>x = .inl (((A++ZbX t u (n:Int) s r).length:Nat):Int)) (fun x hx=>by
   obtain ⟨k,rfl,k2⟩:=hx
   simp only
   unfold ZaT
   by_cases c:k<r.length
   ·left
    have hmem:Z4 t u s r k ∈ Zhd t u s r:=List.mem_map.2 ⟨k,List.mem_range.2 c,rfl⟩
    have hh:=(Zok g hu hs hv hmem).1
    have hi:idx (Zhd t u s r) (k:Int)=some (Z4 t u s r k):=ZoN _ c
    have eh:(ZbX t u (n:Int) s r)[k]'(by omega)=useH u (n:Int) s.Period (Z4 t u s r k):=by simp [ZbX,Zhd]
    have hx:idx F.U ((A.length+k:Nat):Int)=some (useH u (n:Int) s.Period (Z4 t u s r k)):=by rw [hF,Zqi (by omega),eh]
    obtain ⟨y,y1,y2,y3,y4⟩:=Zpz (N:=N) (s:=s) (hs:=(Zhd t u s r,0)) hi hu hh p1 p2 (by omega)
    have z:=Zrh (N:=N) (s:=s) (hs:=(Zhd t u s r,0)) hi hu hh p1 p2 hN y2 y3 y4
    obtain ⟨q1,q2,q3⟩:=Zqv hu hh (n:=(n:Int)) (P:=s.Period)
    refine ⟨(((A.length+(k+1):Nat):Int),((k+1:Nat):Int)),?_,⟨k+1,rfl,by omega⟩,by simp;omega⟩
    have yF:(useH u (n:Int) s.Period (Z4 t u s r k)).From=(Z4 t u s r k).Early / u.Grid % s.Period:=rfl
    have yS:(useH u (n:Int) s.Period (Z4 t u s r k)).Stream=n:=rfl
    have yP:(useH u (n:Int) s.Period (Z4 t u s r k)).Port=(Z4 t u s r k).Port:=rfl
    rw [if_pos (by simp only [hhl,decide_eq_true_eq];omega),if_neg (by simp only [ge_iff_le,Bool.or_eq_true,decide_eq_true_eq];omega)]
    simp only
    rw [hx,Option.bind_some,yF,y1,Option.bind_some,z,Option.bind_some]
    simp only [hi,Option.bind_some,yS,yP,bne_self_eq_false,Bool.false_eq_true,if_false,q1,q2,q3,decide_false]
    rw [ZT (by omega),ZT (by omega)]
    rfl
   ·right
    obtain rfl:k=r.length:=by omega
    rw [if_neg (by simp only [hhl,decide_eq_true_eq];omega)]
    exact ⟨_,rfl,by simp only [List.length_append,hlen]⟩) N ((A.length:Nat),0) ⟨0,rfl,by omega⟩ (by simp;omega)
 rw [ho,eo]
theorem Zqt (hT:Zeo t=true) (hU:ZeJ u=true) (h:SS t s) (hlt:∀ r ∈ s.Routes,ZmI t u s r=false) {F:Ac} {A C:List ZB} {n:Nat} (hn:n<F.P.length) (hF:F.U=A++s.Routes.flatMap (ZbX t u (n:Int) s)++C) (hl:F.U.length≤1000) (hnl:n≤1000) (hN:60000000≤N) :
  Z2 (fun x:Int × Int=>ZaU N t u (⟨F.P,F.U⟩,0) (n:Int) s x.1 x.2) N ((A.length:Nat),0)=some (.inl (((A++s.Routes.flatMap (ZbX t u (n:Int) s)).length:Nat):Int)):=by
 have g:=ZaX.1 hT
 have hu:=ZcB hU
 have hs:=ZcU h.str
 have r1:=h.r1;have r2:=h.r2
 obtain ⟨o,ho,eo⟩:=Zb4 (body:=fun x:Int × Int=>ZaU N t u (⟨F.P,F.U⟩,0) (n:Int) s x.1 x.2)
  (fun x=>∃ k:Nat,x=((((A++(s.Routes.take k).flatMap (ZbX t u (n:Int) s)).length:Nat):Int),(k:Int))∧k≤s.Routes.length) (fun x=>(s.Routes.length - x.2).toNat) (fun x=>x = .inl (((A++s.Routes.flatMap (ZbX t u (n:Int) s)).length:Nat):Int)) (fun x hx=>by
   obtain ⟨k,rfl,k2⟩:=hx
   simp only
   unfold ZaU
   by_cases c:k<s.Routes.length
   ·left
    have hr:=List.getElem_mem c
    have hv:=h.rt _ hr
    obtain ⟨v1,v8,vp⟩:=Zb3 hv
    have hj:s.Routes[k].length - 1<s.Routes[k].length:=by omega
    obtain ⟨b1,b2,b3,b4⟩:=Zhr g hu hs vp v8 hj
    have s1:=hu.s1;have s2:=hu.s2
    have el:=hlt _ hr
    simp only [ZmI,decide_eq_false_iff_not] at el
    have e3:s.Routes.flatMap (ZbX t u (n:Int) s)=(s.Routes.take k).flatMap (ZbX t u (n:Int) s)++ZbX t u (n:Int) s s.Routes[k]++(s.Routes.drop (k+1)).flatMap (ZbX t u (n:Int) s):=by
     conv=>lhs;rw [← List.take_append_drop (k+1) s.Routes,List.flatMap_append,ZdA c,List.flatMap_append]
     simp
    have e4:(s.Routes.take (k+1)).flatMap (ZbX t u (n:Int) s)=(s.Routes.take k).flatMap (ZbX t u (n:Int) s)++ZbX t u (n:Int) s s.Routes[k]:=by
     rw [ZdA c,List.flatMap_append];simp
    have inner:=Zqs (N:=N) g hu h hr (F:=F) (A:=A++(s.Routes.take k).flatMap (ZbX t u (n:Int) s)) (n:=n) (C:=(s.Routes.drop (k+1)).flatMap (ZbX t u (n:Int) s)++C) hn (by rw [hF,e3];simp only [List.append_assoc]) hl hnl hN
    refine ⟨((((A++(s.Routes.take (k+1)).flatMap (ZbX t u (n:Int) s)).length:Nat):Int),((k+1:Nat):Int)),?_,⟨k+1,rfl,by omega⟩,by simp;omega⟩
    rw [if_pos (by simpa using c),Zgx hT hU h.str h.cls (by omega) (by omega) (by omega),Option.bind_some,Zhj k c,Zgw hT hU h.str h.cls (by omega) (by omega) (by omega),Zhj k c,Option.bind_some]
    simp only
    rw [ZP (x:=2 * u.Slack) (by omega) (by omega),ZP (x:=ZaY t u (Z4 t u s s.Routes[k] (s.Routes[k].length - 1))+2 * u.Slack) (by omega) (by omega),if_neg (by simp only [bne_self_eq_false,Bool.false_or,decide_eq_true_eq];exact el)]
    have eh:(List.range s.Routes[k].length).map (Z4 t u s s.Routes[k])=Zhd t u s s.Routes[k]:=rfl
    rw [eh,inner,Option.bind_some]
    simp only
    rw [ZT (by omega),e4,List.append_assoc]
   ·right
    obtain rfl:k=s.Routes.length:=by omega
    rw [if_neg (by simp),List.take_length]
    exact ⟨_,rfl,rfl⟩) N ((A.length:Nat),0) ⟨0,by simp,by omega⟩ (by simp;omega)
 rw [ho,eo]
theorem Zqu (hT:Zeo t=true) (hU:ZeJ u=true) {l:List Zj} (hl:∀ x ∈ l,ZaI t x=true) (h12:l.length≤12) (he:errC (accA t u l)=0) (hN:60000000≤N) :
  Z2 (fun x:Int × Int × Int=>ZaV N t l u (⟨(accA t u l).P,(accA t u l).U⟩,0) x.1 x.2.1 x.2.2) N (0,0,0)=some (.inl (((accA t u l).U.length:Nat),((accA t u l).P.length:Nat))):=by
 have g:=ZaX.1 hT
 have hu:=ZcB hU
 obtain ⟨_,_,hlate⟩:=ZnM he
 have hnl:=(ZnK (t:=t) (u:=u) l _ hlate).2
 have hF:=ZmT (t:=t) (u:=u) g hu hl
 have f1:=hF.pl;have f2:=hF.ul
 obtain ⟨F,eF⟩:∃ F,F=accA t u l:=⟨_,rfl⟩
 rw [← eF] at f1 f2 ⊢
 obtain ⟨o,ho,eo⟩:=Zb4 (body:=fun x:Int × Int × Int=>ZaV N t l u (⟨F.P,F.U⟩,0) x.1 x.2.1 x.2.2)
  (fun x=>∃ k:Nat,x=((((accA t u (l.take k)).U.length:Nat):Int),(((accA t u (l.take k)).P.length:Nat):Int),(k:Int))∧k≤l.length) (fun x=>(l.length - x.2.2).toNat)
  (fun r=>r = .inl ((F.U.length:Nat),(F.P.length:Nat))) (fun x hx=>by
   obtain ⟨k,rfl,k2⟩:=hx
   simp only
   unfold ZaV
   by_cases c:k<l.length
   ·left
    have hm:=List.getElem_mem c
    have hs:=hl _ hm
    refine ⟨((((accA t u (l.take (k+1))).U.length:Nat):Int),(((accA t u (l.take (k+1))).P.length:Nat):Int),((k+1:Nat):Int)),?_,⟨k+1,rfl,by omega⟩,by simp;omega⟩
    obtain ⟨P',U',p1,p2⟩:=acc_pre (t:=t) (u:=u) l (k+1)
    rw [← eF] at p1 p2
    rw [if_pos (by simpa using c),Zcz c,Option.bind_some]
    rw [ZnX l k c] at p1 p2 ⊢
    obtain ⟨A,eA⟩:∃ A,A=accA t u (l.take k):=⟨_,rfl⟩
    rw [← eA] at p1 p2 ⊢
    unfold ZfP at p1 p2 ⊢
    by_cases hc:l[k].Class=7
    ·rw [if_pos hc] at p1 p2 ⊢
     simp only at p1 p2 ⊢
     have hP:A.P.length<F.P.length:=by rw [p1];simp
     have inner:=Zqt (N:=N) hT hU (SS.of hs hc) (hnl _ hm hc) (F:=F) (A:=A.U) (C:=U') (n:=A.P.length) hP p2 (by omega) (by omega) hN
     have hp:idx F.P (A.P.length:Int)=some l[k].Period:=by
      have:=Zqi (A:=A.P) (B:=[l[k].Period]) (C:=P') (k:=0) (by simp)
      rw [p1]
      simpa using this
     rw [if_neg (by simpa using hc),inner,Option.bind_some]
     simp only
     rw [hp,Option.bind_some,if_neg (by simp),ZT (by omega),ZT (by omega)]
     simp
    ·rw [if_neg hc]
     rw [if_pos (by simpa using hc),ZT (by omega)]
   ·right
    obtain rfl:k=l.length:=by omega
    rw [if_neg (by simp),List.take_length,← eF]
    exact ⟨_,rfl,rfl⟩) N (0,0,0) ⟨0,by simp [accA],by omega⟩ (by simp;omega)
 rw [ho,eo]
theorem planCovers_true (d:Zae) (l:List ZaB) (w:Zji) (hd:ZfL d) (hl:l.length≤maxLen∧∀ x ∈ l,ZfK x) (hw:Zl6 w):∃ N,Zdz N d l w=some true:=by
 refine ⟨60000000+l.length,?_⟩
 obtain ⟨N,eN⟩:∃ N,N=60000000+l.length:=⟨_,rfl⟩
 rw [← eN]
 obtain ⟨t,t1,t2,t3⟩:=ZpB (N:=N) (DOK.of hd) (by omega)
 obtain ⟨u,u1,u2⟩:=Zih (N:=N) (ZdX hw.1) (ZdX hw.2.1) (ZdX hw.2.2)
 obtain ⟨s,s1,s2⟩:=Zig (N:=N) t2 t3 (fun d hd=>SDOK.of (hl.2 d hd)) hl.1 (by omega)
 have h6:=s2.len
 have hT:Zeo t=true:=ZaX.2 t2
 have hA:allR t s=0:=s2.all hT
 obtain ⟨h12,hs⟩:=ZqA hA
 have hN2:2000≤N:=by omega
 unfold Zdz
 rw [works24 hN2,Option.bind_some,if_neg (by simp),t1,Option.bind_some,s1,Option.bind_some,u1,Option.bind_some,Zpe _ hN2,Option.bind_some]
 unfold ofS
 rw [if_pos hT,if_pos u2,if_pos hA]
 by_cases e:errC (accA t u s)=0
 ·rw [if_pos e]
  simp only
  rw [if_neg (by simp),Zmy hN2,Zp2 t2 (ZmT t2 (ZcB u2) hs) h12 e,if_pos rfl,Option.bind_some,if_neg (by simp),Zqu hT u2 hs h12 e (by omega),Option.bind_some]
  simp
 ·rw [if_neg e]
  simp only
  rw [if_pos (by simpa using e)]
  rcases Zri (accA t u s) with h | h | h | h | h
  ·exact absurd h e
  all_goals rw [h];rfl
end
end Go.Sh

