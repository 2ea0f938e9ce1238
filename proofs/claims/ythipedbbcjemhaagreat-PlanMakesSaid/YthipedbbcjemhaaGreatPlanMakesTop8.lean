/- Part of the proof. -/
import Derived.Test.YthipedbbcjemhaaGreatPlanMakesBase
import Derived.Test.YthipedbbcjemhaaGreatPlanMakesRd
import Derived.KernelRfl
set_option linter.all false
namespace Go.Sh
open Go Go.Eng
structure DOK (d:Zbi):Prop where
 br:Byte d.Bridges
 sn:Byte d.Stations
 ch:∀ x∈d.Chords,Byte x
 ho:∀ x∈d.Homes,Byte x
 pe:∀ x∈d.Pers,Byte x
 de:∀ x∈d.Delays,Byte x
 chl:d.Chords.length<=maxLen
 hol:d.Homes.length<=maxLen
 pel:d.Pers.length<=maxLen
 del:d.Delays.length<=maxLen
theorem DOK.of {d:Zbi}(h:Zhm d):DOK d:=by
 obtain ⟨h1,h2,⟨h3,h4⟩,⟨h5,h6⟩,⟨h7,h8⟩,h9,h10⟩:=h
 exact ⟨Zfo h1,Zfo h2,λx hx=>Zfo (h4 x hx),λx hx=>Zfo (h6 x hx),λx hx=>Zfo (h8 x hx),λx hx=>Zfo (h10 x hx),h3,h5,h7,h9⟩
def brs (d:Zbi):Nat:=1+(d.Bridges%6).toNat
def sts (d:Zbi):Nat:=2+(d.Stations%5).toNat
section
variable {N:Nat} {d:Zbi}
theorem Zni (h:DOK d):w64 (1+w64 (Int.tmod d.Bridges 6))=((brs d:Nat):Int)/\1<=brs d/\brs d<=6:=by
 obtain ⟨b1,b2⟩:=h.br
 rw [Zm b1,ZaO (x:=d.Bridges%6) (by omega) (by omega),ZaO (by omega) (by omega)]
 unfold brs
 omega
theorem Zmg (h:DOK d):w64 (2+w64 (Int.tmod d.Stations 5))=((sts d:Nat):Int)/\2<=sts d/\sts d<=6:=by
 obtain ⟨b1,b2⟩:=h.sn
 rw [Zm b1,ZaO (x:=d.Stations%5) (by omega) (by omega),ZaO (by omega) (by omega)]
 unfold sts
 omega
theorem Mk.with (hd:DOK d){b n:Nat}{t:Zag}(h:Mk b n t){x y:Int}(hx:0<=x/\x<n)(hy:0<=y/\y<b)(hbn:b<=n)(hN:200<=N) :
  ∃ t',Zbj N d t x y=some t'/\Mk b n t'/\(t'=t∨∃ l:ZaF,l.A=x/\l.B=y/\t'=⟨t.Nodes,t.Station,t.Links++[l]⟩) ∧
   (x≠y->t.Links.length<24->(∀ k,k<t.Links.length->ZgK (lk t k) x y=false)->∃ l:ZaF,l.A=x/\l.B=y/\t'=⟨t.Nodes,t.Station,t.Links++[l]⟩):=by
 obtain ⟨l,hA,hB,hl,e⟩:=ZtC (N:=N) hd.pe hd.pel hd.de hd.del h.stl h.l24 x y hN
 refine ⟨_,e,?_,?_,?_⟩
 ·split
  ·rename_i hc
   exact h.add hc.1 hc.2.1 (by rw [hA,hB];exact hc.2.2) (by rw [hB];exact hy.2)
  exact h
 ·split
  ·exact .inr ⟨l,hA,hB,rfl⟩
  exact .inl rfl
 intro hne h24 hj
 refine ⟨l,hA,hB,Z9 ⟨h24,hl (h.node.2 hx) (h.node.2 ⟨hy.1,by omega⟩) hne ?_,Zb9.2 λk hk=>by rw [hj k hk];rfl⟩⟩
 rw [h.stB hy.1 (by omega),decide_eq_false (by omega),Bool.and_false]
theorem Zko {t:Zag}{l:ZaF}(x:Int):cntA ⟨t.Nodes,t.Station,t.Links++[l]⟩ x=cntA t x+(if l.A=x then 1 else 0):=by
 unfold cntA
 simp only [List.countP_append,List.countP_cons,List.countP_nil]
 by_cases h:l.A=x<;>simp [h]
structure Row (b n c h:Nat) (t:Zag):Prop extends Mk b n t where
 len:c+h<=t.Links.length
 chain:∀ j,j<c->(lk t j).A=j/\(lk t j).B=((j+1:Nat):Int)
 home:∀ j,j<h->(lk t (c+j)).A=((b+j:Nat):Int)
theorem Row.keep {b n c h:Nat}{t:Zag}(r:Row b n c h t){l:ZaF}(hm:Mk b n ⟨t.Nodes,t.Station,t.Links++[l]⟩):Row b n c h ⟨t.Nodes,t.Station,t.Links++[l]⟩ :=
 {hm with
  len:=by have:=r.len;simp;omega
  chain:=λj hj=>by rw [Zek,Z9 (by have:=r.len;omega)];exact r.chain j hj
  home:=λj hj=>by rw [Zek,Z9 (by have:=r.len;omega)];exact r.home j hj }
abbrev tp (x:Int×List Bool×List ZaF):Zag:=⟨x.1,x.2.1,x.2.2⟩
theorem ZtK (hd:DOK d)(hN:200<=N):ZaY (λx:Int×(List Bool)=>Zbp N d x.1 x.2) N (0,[])=some ((List.range (brs d+sts d)).map (λk=>decide (brs d<=k))):=by
 obtain ⟨b1,b2,b3⟩:=Zni hd
 obtain ⟨s1,s2,s3⟩:=Zmg hd
 have:=Zd7 (n:=brs d+sts d) (f:=λ_ k=>(List.range (k+1)).map (λk=>decide (brs d<=k))) (body:=λx:Int×(List Bool)=>Zbp N d x.1 x.2) (fin:=λb=>b) (λk b=>b=(List.range k).map (λk=>decide (brs d<=k)))
  (λk b hk hb=>by
   show Zbp N d k b=_
   unfold Zbp
   subst hb
   rw [b1,s1,ZaO (show -9223372036854775808<=((brs d:Nat):Int)+((sts d:Nat):Int) by omega) (by omega),Z9 (by simp;omega),Zhb (by simp;omega) (by omega),ZZ,ZaW (by omega),List.range_succ,ZL]
   have:decide ((k:Int)≥((brs d:Nat):Int))=decide (brs d<=k):=by rw [Zf,decide_eq_true_iff,decide_eq_true_iff];omega
   rw [this]
   rfl)
  (λk b hk hb=>rfl)
  (λb hb=>by
   show Zbp N d ((brs d+sts d:Nat):Int) b=_
   unfold Zbp
   rw [b1,s1,ZaO (show -9223372036854775808<=((brs d:Nat):Int)+((sts d:Nat):Int) by omega) (by omega),Z8 (by simp)]) (N:=N) (by omega) (b0:=[]) (by simp)
 rw [this.1,this.2]
theorem ZtJ (hd:DOK d)(hN:200<=N){x:Int×List Bool×List ZaF}(hx:Mk (brs d) (brs d+sts d) (tp x))(hx0:x.2.2=[]) :
  ∃ x',ZaY (λx:Int×Int×(List Bool)×(List ZaF)=>Zbo N d x.1 x.2.1 x.2.2.1 x.2.2.2) N (1,x)=some x'/\Row (brs d) (brs d+sts d) (brs d-1) 0 (tp x')/\x'.2.2.length=brs d-1/\∀ s,s<sts d->cntA (tp x') ((brs d+s:Nat):Int)=0:=by
 obtain ⟨b1,b2,b3⟩:=Zni hd
 obtain ⟨s1,s2,s3⟩:=Zmg hd
 have:=ZmW (n:=brs d) (fin:=λb:Int×List Bool×List ZaF=>b) (body:=λx:Int×Int×(List Bool)×(List ZaF)=>Zbo N d x.1 x.2.1 x.2.2.1 x.2.2.2)
  (λk b=>1<=k/\Row (brs d) (brs d+sts d) (k-1) 0 (tp b)/\b.2.2.length=k-1/\∀ s,s<sts d->cntA (tp b) ((brs d+s:Nat):Int)=0)
  (λk b hk ⟨hk1,hr,hl,hc⟩=>by
   have hlen:(tp b).Links.length=k-1:=hl
   obtain ⟨t',w1,w2,_,w4⟩:=hr.toMk.with (N:=N) hd (x:=(k:Int)-1) (y:=(k:Int)) (by omega) (by omega) (by omega) hN
   obtain ⟨l,lA,lB,le⟩:=w4 (by omega) (by omega) (λj hj=>by
    have hj':j<k-1:=by omega
    obtain ⟨c1,c2⟩:=hr.chain j hj'
    unfold ZgK
    rw [c1,c2,beq_false_of_ne (show ((j:Nat):Int)≠(k:Int)-1 by omega),beq_false_of_ne (show ((j:Nat):Int)≠(k:Int) by omega)]
    rfl)
   subst le
   refine ⟨(b.1,b.2.1,b.2.2++[l]),?_,by omega,?_,?_,?_⟩
   ·show Zbo N d k b.1 b.2.1 b.2.2=_
    unfold Zbo
    rw [b1,Z9 (by simp;omega),ZaO (show -9223372036854775808<=(k:Int)-1 by omega) (by omega),w1,ZZ,ZaW (by omega)]
   ·refine { w2 with len:=by simp;omega,chain:=λj hj=>?_,home:=λj hj=>by omega }
    show (lk ⟨(tp b).Nodes,(tp b).Station,(tp b).Links++[l]⟩ j).A=_/\_
    rw [Zek]
    by_cases hj':j<(tp b).Links.length
    ·rw [Z9 hj'];exact hr.chain j (by omega)
    rw [Z8 hj',Z9 (by omega),lA,lB];omega
   ·simp;omega
   intro s hs
   have:=Zko (t:=tp b) (l:=l) ((brs d+s:Nat):Int)
   rw [show cntA (tp (b.1,b.2.1,b.2.2++[l])) _=_ from this,hc s hs,Z8 (by omega)])
  (λb ⟨_,hr,_⟩=>by
   show Zbo N d ((brs d:Nat):Int) b.1 b.2.1 b.2.2=_
   unfold Zbo
   rw [b1,Z8 (by simp)]) (brs d-1) N 1 x (by omega) (by omega) (by omega) ⟨by omega,{ hx with len:=by simp,chain:=λj hj=>by omega,home:=λj hj=>by omega },by rw [hx0];rfl,λs hs=>by unfold cntA;show List.countP _ x.2.2=0;rw [hx0];rfl⟩
 obtain ⟨x',e1,_,e2,e3,e4⟩:=this
 exact ⟨x',e1,e2,e3,e4⟩
theorem ZtI (hd:DOK d)(hN:200<=N){x:Int×List Bool×List ZaF}(hx:Row (brs d) (brs d+sts d) (brs d-1) 0 (tp x))(hl:x.2.2.length=brs d-1)(hc:∀ s,s<sts d->cntA (tp x) ((brs d+s:Nat):Int)=0) :
  ∃ x',ZaY (λx:Int×Int×(List Bool)×(List ZaF)=>Zbn N d x.1 x.2.1 x.2.2.1 x.2.2.2) N (0,x)=some x'/\Row (brs d) (brs d+sts d) (brs d-1) (sts d) (tp x')/\∀ s,s<sts d->cntA (tp x') ((brs d+s:Nat):Int)=1:=by
 obtain ⟨b1,b2,b3⟩:=Zni hd
 obtain ⟨s1,s2,s3⟩:=Zmg hd
 have:=ZmW (n:=sts d) (fin:=λb:Int×List Bool×List ZaF=>b) (body:=λx:Int×Int×(List Bool)×(List ZaF)=>Zbn N d x.1 x.2.1 x.2.2.1 x.2.2.2)
  (λk b=>Row (brs d) (brs d+sts d) (brs d-1) k (tp b)/\b.2.2.length=brs d-1+k/\∀ s,s<sts d->cntA (tp b) ((brs d+s:Nat):Int)=if s<k then 1 else 0)
  (λk b hk ⟨hr,hl,hc⟩=>by
   have hlen:(tp b).Links.length=brs d-1+k:=hl
   obtain ⟨v,p1,p2,p3⟩:=Zgi (N:=N) hd.ho hd.hol (i:=2*(k:Int)) (by omega)
   obtain ⟨m,m1,m2,m3⟩:=ZfY (v:=v) (b:=((brs d:Nat):Int)) p2 (by omega)
   obtain ⟨t',w1,w2,_,w4⟩:=hr.toMk.with (N:=N) hd (x:=((brs d:Nat):Int)+(k:Int)) (y:=m) (by omega) (by omega) (by omega) hN
   obtain ⟨l,lA,lB,le⟩:=w4 (by omega) (by omega) (λj hj=>by
    have hB:=hr.ends j hj
    have hA:(lk (tp b) j).A≠((brs d:Nat):Int)+(k:Int):=by
     by_cases hj':j<brs d-1
     ·rw [(hr.chain j hj').1];omega
     have:=hr.home (j-(brs d-1)) (by omega)
     rw [show brs d-1+(j-(brs d-1))=j by omega] at this
     rw [this];omega
    unfold ZgK
    rw [beq_false_of_ne hA,beq_false_of_ne (show (lk (tp b) j).B≠((brs d:Nat):Int)+(k:Int) by omega)]
    simp)
   subst le
   refine ⟨(b.1,b.2.1,b.2.2++[l]),?_,?_,?_,?_⟩
   ·show Zbn N d k b.1 b.2.1 b.2.2=_
    unfold Zbn
    rw [b1,s1,Z9 (by simp;omega),ZaO (show -9223372036854775808<=2*(k:Int) by omega) (by omega),p1,ZZ,m1,ZZ,ZaO (show -9223372036854775808<=((brs d:Nat):Int)+(k:Int) by omega) (by omega),w1,ZZ,ZaW (by omega)]
   ·refine { w2 with len:=by simp;omega,chain:=λj hj=>?_,home:=λj hj=>?_ }
    ·show (lk ⟨(tp b).Nodes,(tp b).Station,(tp b).Links++[l]⟩ j).A=_/\_
     rw [Zek,Z9 (by omega)];exact hr.chain j hj
    show (lk ⟨(tp b).Nodes,(tp b).Station,(tp b).Links++[l]⟩ (brs d-1+j)).A=_
    rw [Zek]
    by_cases hj':j<k
    ·rw [Z9 (by omega)];exact hr.home j hj'
    rw [Z8 (by omega),Z9 (by omega),lA];omega
   ·simp;omega
   intro s hs
   have:=Zko (t:=tp b) (l:=l) ((brs d+s:Nat):Int)
   rw [show cntA (tp (b.1,b.2.1,b.2.2++[l])) _=_ from this,hc s hs]
   by_cases e:s=k
   ·subst e;rw [Z8 (by omega),Z9 (by omega),Z9 (by omega)]
   rw [Z8 (show ¬ l.A=_ by omega)]
   by_cases h:s<k
   ·rw [Z9 h,Z9 (by omega)]
   rw [Z8 h,Z8 (by omega)])
  (λb ⟨hr,_⟩=>by
   show Zbn N d ((sts d:Nat):Int) b.1 b.2.1 b.2.2=_
   unfold Zbn
   rw [s1,Z8 (by simp)]) (sts d) N 0 x (by omega) (by omega) (by omega) ⟨hx,by omega,λs hs=>by rw [hc s hs,Z8 (by omega)]⟩
 obtain ⟨x',e1,e2,e3,e4⟩:=this
 exact ⟨x',e1,e2,λs hs=>by rw [e4 s hs,Z9 hs]⟩
theorem ZtH (hd:DOK d)(hN:200<=N){x:Int×List Bool×List ZaF}(hx:Row (brs d) (brs d+sts d) (brs d-1) (sts d) (tp x))(hc:∀ s,s<sts d->cntA (tp x) ((brs d+s:Nat):Int)=1) :
  ∃ x',ZaY (λx:Int×Int×(List Bool)×(List ZaF)=>Zbc N d x.1 x.2.1 x.2.2.1 x.2.2.2) N (0,x)=some x'/\Row (brs d) (brs d+sts d) (brs d-1) (sts d) (tp x')/\∀ s,s<sts d->1<=cntA (tp x') ((brs d+s:Nat):Int)/\cntA (tp x') ((brs d+s:Nat):Int)<=2:=by
 obtain ⟨b1,b2,b3⟩:=Zni hd
 obtain ⟨s1,s2,s3⟩:=Zmg hd
 have:=ZmW (n:=sts d) (fin:=λb:Int×List Bool×List ZaF=>b) (body:=λx:Int×Int×(List Bool)×(List ZaF)=>Zbc N d x.1 x.2.1 x.2.2.1 x.2.2.2)
  (λk b=>Row (brs d) (brs d+sts d) (brs d-1) (sts d) (tp b)/\∀ s,s<sts d->1<=cntA (tp b) ((brs d+s:Nat):Int)/\cntA (tp b) ((brs d+s:Nat):Int)<=if s<k then 2 else 1)
  (λk b hk ⟨hr,hc⟩=>by
   obtain ⟨v,p1,p2,p3⟩:=Zgi (N:=N) hd.ho hd.hol (i:=2*(k:Int)+1) (by omega)
   obtain ⟨m,m1,m2,m3⟩:=ZfY (v:=v) (b:=((brs d:Nat):Int)) p2 (by omega)
   have hsame:∀ s,s<sts d->1<=cntA (tp b) ((brs d+s:Nat):Int)/\cntA (tp b) ((brs d+s:Nat):Int)<=if s<k+1 then 2 else 1:=λs hs=>by
    obtain ⟨q1,q2⟩:=hc s hs
    refine ⟨q1,?_⟩
    split at q2<;>split<;>omega
   have hb:Zbc N d (k:Int) b.1 b.2.1 b.2.2=if (decide (Int.tmod v 3>0))=true then (Zbj N d (tp b) (((brs d:Nat):Int)+(k:Int)) m).bind λr=>some (.inl (((k+1:Nat):Int),r.Nodes,r.Station,r.Links)) else some (.inl (((k+1:Nat):Int),b)):=by
    unfold Zbc
    rw [b1,s1,Z9 (by simp;omega),ZaO (show -9223372036854775808<=2*(k:Int) by omega) (by omega),ZaO (show -9223372036854775808<=2*(k:Int)+1 by omega) (by omega),p1]
    simp only [ZZ,m1,ZaO (show -9223372036854775808<=((brs d:Nat):Int)+(k:Int) by omega) (by omega),ZaW (show k<1000000 by omega)]
    split
    ·cases Zbj N d (tp b) (((brs d:Nat):Int)+(k:Int)) m<;>rfl
    rfl
   by_cases hv:Int.tmod v 3>0
   ·obtain ⟨t',w1,w2,w3,_⟩:=hr.toMk.with (N:=N) hd (x:=((brs d:Nat):Int)+(k:Int)) (y:=m) (by omega) (by omega) (by omega) hN
    refine ⟨(t'.Nodes,t'.Station,t'.Links),?_,?_⟩
    ·show Zbc N d (k:Int) b.1 b.2.1 b.2.2=_
     rw [hb,Z9 (by simpa using hv),w1];rfl
    rcases w3 with rfl|⟨l,lA,lB,rfl⟩
    ·exact ⟨hr,hsame⟩
    refine ⟨hr.keep w2,λs hs=>?_⟩
    have:=Zko (t:=tp b) (l:=l) ((brs d+s:Nat):Int)
    rw [show cntA (tp ((tp b).Nodes,(tp b).Station,(tp b).Links++[l])) _=_ from this]
    obtain ⟨q1,q2⟩:=hc s hs
    by_cases e:s=k
    ·subst e
     rw [Z9 (by omega),Z9 (by omega)]
     rw [Z8 (by omega)] at q2
     omega
    rw [Z8 (show ¬ l.A=_ by omega)]
    exact hsame s hs
   refine ⟨b,?_,hr,hsame⟩
   show Zbc N d (k:Int) b.1 b.2.1 b.2.2=_
   rw [hb,Z8 (by simpa using hv)])
  (λb ⟨hr,_⟩=>by
   show Zbc N d ((sts d:Nat):Int) b.1 b.2.1 b.2.2=_
   unfold Zbc
   rw [s1,Z8 (by simp)]) (sts d) N 0 x (by omega) (by omega) (by omega) ⟨hx,λs hs=>by rw [hc s hs];split<;>omega⟩
 obtain ⟨x',e1,e2,e3⟩:=this
 exact ⟨x',e1,e2,λs hs=>by have:=e3 s hs;rw [Z9 hs] at this;exact this⟩
theorem ZtG (hd:DOK d)(hN:200<=N){x:Int×List Bool×List ZaF}(hx:Row (brs d) (brs d+sts d) (brs d-1) (sts d) (tp x))(hc:∀ s,s<sts d->1<=cntA (tp x) ((brs d+s:Nat):Int)/\cntA (tp x) ((brs d+s:Nat):Int)<=2) :
  ∃ x',ZaY (λx:Int×Int×(List Bool)×(List ZaF)=>ZbA N d x.1 x.2.1 x.2.2.1 x.2.2.2) N (0,x)=some x'/\Row (brs d) (brs d+sts d) (brs d-1) (sts d) (tp x')/\∀ s,s<sts d->1<=cntA (tp x') ((brs d+s:Nat):Int)/\cntA (tp x') ((brs d+s:Nat):Int)<=2:=by
 obtain ⟨b1,b2,b3⟩:=Zni hd
 obtain ⟨s1,s2,s3⟩:=Zmg hd
 refine ZcS (I:=λx:Int×Int×List Bool×List ZaF=>0<=x.1/\Row (brs d) (brs d+sts d) (brs d-1) (sts d) (tp x.2)/\∀ s,s<sts d->1<=cntA (tp x.2) ((brs d+s:Nat):Int)/\cntA (tp x.2) ((brs d+s:Nat):Int)<=2) (μ:=λx=>(14-x.1).toNat)
  (Post:=λx'=>Row (brs d) (brs d+sts d) (brs d-1) (sts d) (tp x')/\∀ s,s<sts d->1<=cntA (tp x') ((brs d+s:Nat):Int)/\cntA (tp x') ((brs d+s:Nat):Int)<=2) ?_ N (0,x) ⟨by omega,hx,hc⟩ (by simp;omega)
 rintro ⟨i,y⟩ ⟨h0,hr,hc⟩
 simp only at h0 hr hc
 by_cases hi:i<12/\i+1<(d.Chords.length:Int)
 ·left
  obtain ⟨v1,v2⟩:=hd.ch _ (List.getElem_mem (show i.toNat<d.Chords.length by omega))
  obtain ⟨v3,v4⟩:=hd.ch _ (List.getElem_mem (show (i+1).toNat<d.Chords.length by omega))
  obtain ⟨m,m1,m2,m3⟩:=ZfY (b:=((brs d:Nat):Int)) v1 (by omega)
  obtain ⟨q,q1,q2,q3⟩:=ZfY (b:=((brs d:Nat):Int)) v3 (by omega)
  obtain ⟨t',w1,w2,w3,_⟩:=hr.toMk.with (N:=N) hd (x:=m) (y:=q) (by omega) (by omega) (by omega) hN
  refine ⟨(i+2,t'.Nodes,t'.Station,t'.Links),?_,⟨by simp only;omega,?_⟩,by simp only;omega⟩
  ·show ZbA N d i y.1 y.2.1 y.2.2=_
   unfold ZbA
   rw [ZaO (show -9223372036854775808<=i+1 by omega) (by omega),Z9 (by simp;omega),Zlw h0 (by omega),ZZ,ZaO (by omega) (by omega),b1,m1,ZZ,Zlw (by omega) (by omega),ZZ,ZaO (by omega) (by omega),q1,ZZ,w1,ZZ,ZaO (by omega) (by omega)]
  rcases w3 with rfl|⟨l,lA,lB,rfl⟩
  ·exact ⟨hr,hc⟩
  refine ⟨hr.keep w2,λs hs=>?_⟩
  have:=Zko (t:=tp y) (l:=l) ((brs d+s:Nat):Int)
  rw [show cntA (tp ((tp y).Nodes,(tp y).Station,(tp y).Links++[l])) _=_ from this,Z8 (show ¬ l.A=_ by omega)]
  exact hc s hs
 right
 refine ⟨y,?_,hr,hc⟩
 show ZbA N d i y.1 y.2.1 y.2.2=_
 unfold ZbA
 by_cases h12:i<12
 ·rw [ZaO (by omega) (by omega),Z8 (by simp;omega)]
 rw [Z8 (by simp;omega)]
theorem Zsy (hd:DOK d)(hN:200<=N):∃ t,Zde N d=some t/\Row (brs d) (brs d+sts d) (brs d-1) (sts d) t/\∀ s,s<sts d->1<=cntA t ((brs d+s:Nat):Int)/\cntA t ((brs d+s:Nat):Int)<=2:=by
 obtain ⟨b1,b2,b3⟩:=Zni hd
 obtain ⟨s1,s2,s3⟩:=Zmg hd
 unfold Zde
 rw [ZtK hd hN,ZZ]
 have e0:w64 (w64 (1+w64 (Int.tmod d.Bridges 6))+w64 (2+w64 (Int.tmod d.Stations 5)))=((brs d+sts d:Nat):Int):=by rw [b1,s1,ZaO (by omega) (by omega)];omega
 obtain ⟨x2,l2,r2,k2,c2⟩:=ZtJ (N:=N) hd hN (x:=(((brs d+sts d:Nat):Int),(List.range (brs d+sts d)).map (λk=>decide (brs d<=k)),[])) ⟨rfl,rfl,by simp,λk hk=>by simp at hk,λk hk=>by simp at hk⟩ rfl
 rw [e0,l2,ZZ]
 obtain ⟨x3,l3,r3,c3⟩:=ZtI (N:=N) hd hN r2 k2 c2
 rw [show ((0:Int),x2.1,x2.2.1,x2.2.2)=(0,x2) from rfl,l3,ZZ]
 have hring:∃ x4:Int×List Bool×List ZaF,(if (decide (w64 (1+w64 (Int.tmod d.Bridges 6))>2)&&(Int.tmod d.Bridges 2==0))=true then (Zbj N d ⟨x3.1,x3.2.1,x3.2.2⟩ (w64 (w64 (1+w64 (Int.tmod d.Bridges 6))-1)) 0).bind λr=>some (r.Nodes,r.Station,r.Links) else some (x3.1,x3.2.1,x3.2.2))=some x4 ∧
   Row (brs d) (brs d+sts d) (brs d-1) (sts d) (tp x4)/\∀ s,s<sts d->cntA (tp x4) ((brs d+s:Nat):Int)=1:=by
  by_cases hc:(decide (w64 (1+w64 (Int.tmod d.Bridges 6))>2)&&(Int.tmod d.Bridges 2==0))=true
  ·rw [Z9 hc,b1,ZaO (show -9223372036854775808<=((brs d:Nat):Int)-1 by omega) (by omega)]
   obtain ⟨t',w1,w2,w3,_⟩:=r3.toMk.with (N:=N) hd (x:=((brs d:Nat):Int)-1) (y:=0) (by omega) (by omega) (by omega) hN
   refine ⟨(t'.Nodes,t'.Station,t'.Links),by rw [w1];rfl,?_⟩
   rcases w3 with rfl|⟨l,lA,lB,rfl⟩
   ·exact ⟨r3,c3⟩
   refine ⟨r3.keep w2,λs hs=>?_⟩
   have:=Zko (t:=tp x3) (l:=l) ((brs d+s:Nat):Int)
   rw [show cntA (tp ((tp x3).Nodes,(tp x3).Station,(tp x3).Links++[l])) _=_ from this,Z8 (show ¬ l.A=_ by omega)]
   exact c3 s hs
  rw [Z8 hc];exact ⟨x3,rfl,r3,c3⟩
 obtain ⟨x4,l4,r4,c4⟩:=hring
 rw [l4,ZZ]
 obtain ⟨x5,l5,r5,c5⟩:=ZtH (N:=N) hd hN r4 c4
 rw [show ((0:Int),x4.1,x4.2.1,x4.2.2)=(0,x4) from rfl,l5,ZZ]
 obtain ⟨x6,l6,r6,c6⟩:=ZtG (N:=N) hd hN r5 c5
 rw [show ((0:Int),x5.1,x5.2.1,x5.2.2)=(0,x5) from rfl,l6,ZZ]
 exact ⟨_,rfl,r6,c6⟩
end
end Go.Sh

namespace Go.Sh
open Go Go.Eng
def cntB (l:List ZaF)(x:Int):Nat:=l.countP (λl=>l.B==x)
theorem Zst {l:List Int}{i:Nat}{v:Int}{j:Nat}(h:i<l.length):(l.set i v).getD j 0=if j=i then v else l.getD j 0:=by
 rw [Zw,Zw,ZF]
 by_cases e:j=i
 ·subst e;rw [Z9 rfl,Z9 h,Z9 rfl];rfl
 rw [Z8 (Ne.symm e),Z8 e]
theorem Zq6 {b:List Int}{x:Int}(h0:0<=x)(h:x<b.length){j:Nat}(hv:0<=b.getD x.toNat 0/\b.getD x.toNat 0<=1000):(bump b x).getD j 0=b.getD j 0+(if x=j then 1 else 0):=by
 unfold bump
 rw [Zst (by omega)]
 by_cases e:j=x.toNat
 ·rw [Z9 e,Z9 (by omega),ZaO (by omega) (by omega),e]
 rw [Z8 e,Z8 (by omega)];omega
theorem Zn7 {m:Int}:∀ (l:List ZaF) (b:List Int) (M:Nat),(b.length:Int)=m->(∀ k∈l,(0<=k.A/\k.A<m)/\0<=k.B/\k.B<m)->(∀ j:Nat,0<=b.getD j 0/\b.getD j 0<=M)->M+2*l.length<=900->∀ j:Nat,
  (l.foldl Zng b).getD j 0=b.getD j 0+(l.countP (λk=>k.A==(j:Int)):Nat)+(cntB l j:Nat)
 | [],b,M,_,_,_,_,j=>by simp [cntB]
 | k::l,b,M,hb,hl,hM,hle,j=>by
  obtain ⟨⟨a1,a2⟩,a3,a4⟩:=hl k (by simp)
  have g1:∀ j:Nat,(bump b k.A).getD j 0=b.getD j 0+(if k.A=j then 1 else 0):=λj=>Zq6 a1 (by omega) (by have:=hM k.A.toNat;simp only [ZJ] at hle;omega)
  have g2:∀ j:Nat,(Zng b k).getD j 0=b.getD j 0+(if k.A=j then 1 else 0)+(if k.B=j then 1 else 0):=λj=>by
   unfold Zng
   rw [Zq6 a3 (by rw [Zq4];omega) (by rw [g1];have:=hM k.B.toNat;simp only [ZJ] at hle;split<;>omega),g1]
  rw [Zv,Zn7 l (Zng b k) (M+2) (by rw [Znf];exact hb) (λk hk=>hl k (by simp [hk])) (λj=>by rw [g2];have:=hM j;split<;>split<;>omega) (by simp only [ZJ] at hle;omega) j,g2]
  simp only [cntB,List.countP_cons]
  by_cases e1:k.A=(j:Int)<;>by_cases e2:k.B=(j:Int)<;>simp [e1,e2]<;>omega
theorem ZnR {l:List Bool}{k:ZaF}{x:Nat}(h:l.getD x false=true):(Zhu l k).getD x false=true:=by
 unfold Zhu
 split
 ·exact Zh3 (Zh3 h)
 exact h
theorem Zn3 {x:Nat}:∀ (ks:List ZaF) {l:List Bool},l.getD x false=true->(ks.foldl Zhu l).getD x false=true
 | [],l,h=>h
 | k::ks,l,h=>Zn3 ks (ZnR h)
theorem Zh4 {l:List Bool}{i:Nat}(h:i<l.length):(l.set i true).getD i false=true:=by
 rw [Zw,ZF,Z9 rfl,Z9 h];rfl
theorem ZnS {l:List Bool}{k:ZaF}(h:l.getD k.A.toNat false=true∨l.getD k.B.toNat false=true)(hA:k.A.toNat<l.length)(hB:k.B.toNat<l.length):(Zhu l k).getD k.A.toNat false=true/\(Zhu l k).getD k.B.toNat false=true:=by
 unfold Zhu
 rw [Z9 (by rcases h with h|h<;>rw [h]<;>simp)]
 exact ⟨Zh3 (Zh4 hA),Zh4 (by simpa using hB)⟩
theorem Zmx (ks:List ZaF)(l:List Bool):(ks.foldl Zhu l).length=l.length:=by
 induction ks generalizing l with
 | nil=>rfl
 | cons k ks ih=>rw [Zv,ih,Zmq]
section
variable {b n c h:Nat} {t:Zag}
theorem ZhP (t:Zag)(l:List Bool):Ziv t l=t.Links.foldl Zhu l:=Zm4 dL t.Links Zhu l
theorem Row.round (r:Row b n (b-1) (n-b) t)(hb:1<=b)(hbn:b<=n){l:List Bool}(hl:l.length=n)(h0:l.getD 0 false=true):∀ x,x<n->(Ziv t l).getD x false=true:=by
 have hnodes:∀ k,k<t.Links.length->(0<=(lk t k).A/\(lk t k).A<n)/\0<=(lk t k).B/\(lk t k).B<n:=λk hk=>by
  have:=Zdm (r.links k hk).1
  exact ⟨r.toMk.node.1 this.1,r.toMk.node.1 this.2.1⟩
 have hlen:=r.len
 have step:∀ k,k<=t.Links.length->∀ x,x<n->(x<b/\x<=k)∨(b<=x/\b-1+(x-b)<k)->((t.Links.take k).foldl Zhu l).getD x false=true:=by
  intro k
  induction k with
  | zero =>
   intro _ x hx hc
   rcases hc with ⟨h1,h2⟩|⟨h1,h2⟩
   ·obtain rfl:x=0:=by omega
    simpa using h0
   omega
  | succ k ih =>
   intro hk x hx hc
   have htk:t.Links.take (k+1)=t.Links.take k++[lk t k]:=by
    have:lk t k=t.Links[k]:=by simp [lk,Zw,show k<t.Links.length by omega]
    rw [this,List.take_append_getElem]
   rw [htk,List.foldl_append,Zv,List.foldl_nil]
   have hfl:((t.Links.take k).foldl Zhu l).length=n:=by rw [Zmx,hl]
   obtain ⟨⟨n1,n2⟩,n3,n4⟩:=hnodes k (by omega)
   by_cases hold:(x<b/\x<=k)∨(b<=x/\b-1+(x-b)<k)
   ·exact ZnR (ih (by omega) x hx hold)
   rcases hc with ⟨h1,h2⟩|⟨h1,h2⟩
   ·have hk1:x=k+1:=by omega
    obtain ⟨c1,c2⟩:=r.chain k (by omega)
    have:=ZnS (k:=lk t k) (l:=(t.Links.take k).foldl Zhu l) (.inl (by rw [c1];exact ih (by omega) k (by omega) (.inl ⟨by omega,by omega⟩))) (by omega) (by omega)
    have e:=this.2
    rw [c2] at e
    rw [hk1];exact e
   have hk1:k=b-1+(x-b):=by omega
   have c1:=r.home (x-b) (by omega)
   rw [← hk1] at c1
   have hB:=r.ends k (by omega)
   have:=ZnS (k:=lk t k) (l:=(t.Links.take k).foldl Zhu l) (.inr (ih (by omega) (lk t k).B.toNat (by omega) (.inl ⟨by omega,by omega⟩))) (by omega) (by omega)
   have e:=this.1
   rw [c1] at e
   rwa [show (((b+(x-b):Nat):Int)).toNat=x by omega] at e
 intro x hx
 rw [ZhP]
 have:=step t.Links.length (Nat.le_refl _) x hx (by
  by_cases hxb:x<b
  ·exact .inl ⟨hxb,by omega⟩
  exact .inr ⟨by omega,by omega⟩)
 rwa [ZU] at this
theorem Row.reach (r:Row b n (b-1) (n-b) t)(hb:1<=b)(hbn:b<=n)(hn:1<=n):∀ x,x<n->(ZgG t 0).getD x false=true:=by
 have hnod:t.Nodes.toNat=n:=by rw [r.nodes];omega
 unfold ZgG
 rw [hnod]
 have hall:∀ m,1<=m->∀ x,x<n->((List.range m).foldl (λl _=>Ziv t l) ((List.replicate n false).set (0:Int).toNat true)).getD x false=true/\((List.range m).foldl (λl _=>Ziv t l) ((List.replicate n false).set (0:Int).toNat true)).length=n:=by
  intro m hm
  induction m with
  | zero=>omega
  | succ m ih =>
   intro x hx
   rw [List.range_succ,List.foldl_append,Zv,List.foldl_nil]
   by_cases hm0:m=0
   ·subst hm0
    refine ⟨r.round hb hbn (by simp) (Zh4 (by simp;omega)) x hx,?_⟩
    rw [ZhP,Zmx];simp
   obtain ⟨i1,i2⟩:=ih (by omega) x hx
   exact ⟨by rw [ZhP];exact Zn3 _ i1,by rw [ZhP,Zmx];exact i2⟩
 exact λx hx=>(hall n hn x hx).1
theorem Row.good (r:Row b n (b-1) (n-b) t)(hb:1<=b)(hbn:b+1<=n)(hn12:n<=12)(hc:∀ s,s<n-b->1<=cntA t ((b+s:Nat):Int)/\cntA t ((b+s:Nat):Int)<=2):Good t:=by
 have hnod:t.Nodes.toNat=n:=by rw [r.nodes];omega
 refine ⟨by rw [r.nodes];omega,by rw [r.nodes];omega,r.stl,r.l24,r.links,λx hx=>?_⟩
 rw [hnod] at hx
 refine ⟨r.reach hb (by omega) (by omega) x hx,?_⟩
 unfold degB
 rw [r.stB (by omega) (by omega)]
 by_cases hxb:(b:Int)<=(x:Int)
 ·have hd:(degs t).getD x 0=(cntA t (x:Int):Nat)+(cntB t.Links x:Nat):=by
   have e0:degs t=t.Links.foldl Zng (List.replicate n 0):=by rw [← hnod];exact Zm4 dL t.Links Zng _
   rw [e0]
   have hz:∀ j:Nat,(List.replicate n (0:Int)).getD j 0=0:=λj=>by
    rw [Zw,List.getElem?_replicate];split<;>rfl
   have:=Zn7 (m:=(n:Int)) t.Links (List.replicate n 0) 0 (by simp) (λk hk=>by
    obtain ⟨i,hi,rfl⟩:=List.getElem_of_mem hk
    have e:lk t i=t.Links[i]:=by simp [lk,Zw,hi]
    have:=Zdm (r.links i hi).1
    rw [e] at this
    exact ⟨r.toMk.node.1 this.1,r.toMk.node.1 this.2.1⟩) (λj=>by rw [hz];omega) (by have:=r.l24;omega) x
   rw [this,hz]
   unfold cntA
   omega
  have hB0:cntB t.Links x=0:=by
   unfold cntB
   rw [List.countP_eq_zero]
   intro k hk
   obtain ⟨i,hi,rfl⟩:=List.getElem_of_mem hk
   have e:lk t i=t.Links[i]:=by simp [lk,Zw,hi]
   have:=r.ends i hi
   rw [e] at this
   simp;omega
  have:=hc (x-b) (by omega)
  rw [show ((b+(x-b):Nat):Int)=(x:Int) by omega] at this
  rw [decide_eq_true hxb,hd,hB0,decide_eq_true (by omega),decide_eq_true (by omega)]
  rfl
 rw [decide_eq_false hxb];rfl
theorem Row.port (r:Row b n (b-1) (n-b) t)(hb:1<=b)(hbn:b+1<=n){x:Int}(h0:0<=x)(hx:x<n):∃ k,k<t.Links.length/\((lk t k).A=x∨(lk t k).B=x):=by
 have hlen:=r.len
 by_cases hxb:x<b
 ·by_cases hx1:x.toNat<b-1
  ·exact ⟨x.toNat,by omega,.inl (by rw [(r.chain x.toNat hx1).1];omega)⟩
  by_cases hb1:b=1
  ·
   have h1:=r.home 0 (by omega)
   have h2:=r.ends (b-1+0) (by omega)
   have h3:=Zdm (r.links (b-1+0) (by omega)).1
   have h4:=r.toMk.node.1 h3.2.1
   exact ⟨b-1+0,by omega,.inr (by omega)⟩
  have:=r.chain (b-2) (by omega)
  exact ⟨b-2,by omega,.inr (by rw [this.2];omega)⟩
 have:=r.home (x.toNat-b) (by omega)
 exact ⟨b-1+(x.toNat-b),by omega,.inl (by rw [this];omega)⟩
end
theorem ZrM {N:Nat}{d:Zbi}(hd:DOK d)(hN:200<=N):∃ t,Zde N d=some t/\Good t/\∀ x:Int,0<=x->x<t.Nodes->∃ k,k<t.Links.length/\((lk t k).A=x∨(lk t k).B=x):=by
 obtain ⟨_,b2,b3⟩:=Zni hd
 obtain ⟨_,s2,s3⟩:=Zmg hd
 obtain ⟨t,e,r,c⟩:=Zsy (N:=N) hd hN
 have hr:Row (brs d) (brs d+sts d) (brs d-1) (brs d+sts d-brs d) t:=by rw [show brs d+sts d-brs d=sts d by omega];exact r
 refine ⟨t,e,hr.good b2 (by omega) (by omega) (λs hs=>c s (by omega)),λx h0 hx=>?_⟩
 rw [r.nodes] at hx
 exact hr.port b2 (by omega) h0 hx
end Go.Sh

namespace Go.Sh
open Go Go.Eng
section
variable {N:Nat} {t:Zag}
theorem ZnJ (g:Good t)(x:Int)(hN:200<=N):ZfB N t x=some (PF (λp=>frm t p==x) (2*t.Links.length)):=by
 have h24:=g.l24
 unfold ZfB
 have:=Zd7 (n:=2*t.Links.length) (f:=λb k=>PF (λp=>frm t p==x) (k+1)) (body:=λy:Int×(List Int)=>ZcA N t x y.1 y.2) (fin:=λb=>b) (λk b=>b=PF (λp=>frm t p==x) k)
  (λk b hk hb=>by
   show ZcA N t x k b=_
   unfold ZcA
   subst hb
   have:=Ztz (λp=>frm t p==x) k
   have hp:Zc9 t (k:Int)=true:=by simp only [Zc9,Ze,Z6];omega
   rw [Z9 (by rw [ZaO (by omega) (by omega)];simp;omega),Zew (by omega) hp,ZZ,ZsH,ZaW (by omega)]
   cases (frm t (k:Int)==x) with
   | false=>rfl
   | true=>simp only [Zaa];rw [Zhb (by rw [List.length_singleton];omega) (by omega)];rfl)
  (λk b hk hb=>rfl)
  (λb hb=>by show ZcA N t x ((2*t.Links.length:Nat):Int) b=_;unfold ZcA;rw [Z8 (by rw [ZaO (by omega) (by omega)];simp)]) (N:=N) (by omega) (b0:=[]) rfl
 rw [this.1,ZZ,this.2]
theorem Zr5 (g:Good t){seen Q:List Int}(hs:seen.length<=100)(hQ:Q.length<=100)(hp:∀ p∈Q,Zc9 t p=true)(hN:200<=N) :
  ZaY (λx:Int×(List Int)=>Zce N t seen Q x.1 x.2) N (0,[])=some (Q.filter λp => !seen.contains (too t p)):=by
 have hL:t.Links.length<=1000:=by have:=g.l24;omega
 have:=Zd7 (n:=Q.length) (f:=λb k=>(Q.take (k+1)).filter λp => !seen.contains (too t p)) (body:=λx:Int×(List Int)=>Zce N t seen Q x.1 x.2) (fin:=λb=>b) (λk b=>b=(Q.take k).filter λp => !seen.contains (too t p))
  (λk b hk hb=>by
   show Zce N t seen Q k b=_
   unfold Zce
   subst hb
   have hlen:((Q.take k).filter λp => !seen.contains (too t p)).length<=100:=Nat.le_trans (List.length_filter_le _ _) (by simp;omega)
   have htk:Q.take (k+1)=Q.take k++[Q[k]]:=by rw [List.take_append_getElem]
   rw [Z9 (by simp;omega),ZcT hk,ZZ,ZeV hL (hp _ (List.getElem_mem hk)),ZZ,ZhV (by omega) (by omega),ZZ,htk,List.filter_append,ZaW (by omega)]
   cases hc:seen.contains (too t Q[k]) with
   | true =>
    have:[Q[k]].filter (λp => !seen.contains (too t p))=[]:=by rw [List.filter_cons_of_neg (by rw [hc];simp)];rfl
    rw [this,List.append_nil]
    rfl
   | false =>
    have:[Q[k]].filter (λp => !seen.contains (too t p))=[Q[k]]:=by rw [List.filter_cons_of_pos (by rw [hc];rfl)];rfl
    rw [this]
    simp only [Bool.not_false,Zaa,ZZ]
    rw [Zhb (by rw [List.length_singleton];omega) (by omega)]
    rfl)
  (λk b hk hb=>rfl)
  (λb hb=>by show Zce N t seen Q Q.length b=_;unfold Zce;rw [Z8 (by simp)]) (N:=N) (by omega) (b0:=[]) (by simp)
 rw [this.1,this.2,ZU]
theorem Zk8 {r:List Int}{p:Int}{k:Nat}:at0 (r++[p]) k=if k<r.length then at0 r k else if k=r.length then p else 0:=by
 unfold at0
 simp only [Zw]
 by_cases h:k<r.length
 ·rw [Z9 h,Zx h]
 rw [Z8 h,Zy (by omega)]
 by_cases e:k=r.length
 ·subst e;simp
 rw [Z8 e]
 cases hh:k-r.length with
 | zero=>omega
 | succ m=>simp
theorem Zrq {r:List Int}{p m:Int}(hm:r≠[]->frm t (at0 r 0)=m)(h0:r=[]->frm t p=m):Zbm t (r++[p])=(m::r.map (too t))++[too t p]:=by
 unfold Zbm
 rw [Zk8,ZL]
 by_cases h:r=[]
 ·subst h
  simp [h0 rfl]
 have:0<r.length:=List.length_pos_iff.2 h
 rw [Z9 this,hm h]
 rfl
theorem Zsf {r:List Int}{p m:Int}(hm:r≠[]->frm t (at0 r 0)=m)(h0:r=[]->frm t p=m)(hok:∀ k,k<r.length->okAt t r k=true)(hp:Zc9 t p=true)
  (hf:frm t p=(m::r.map (too t)).getD r.length 0) (hst:r≠[]->stB t (frm t p)=false) (hnew:(m::r.map (too t)).contains (too t p)=false):∀ k,k<(r++[p]).length->okAt t (r++[p]) k=true:=by
 have hN:=Zrq (t:=t) hm h0
 have hlen:(m::r.map (too t)).length=r.length+1:=by simp
 have hnd:∀ k,k<=r.length->nd t (r++[p]) k=(m::r.map (too t)).getD k 0:=λk hk=>by
  unfold nd
  rw [hN,Zw,Zx (by omega),Zw]
 have hlast:nd t (r++[p]) (r.length+1)=too t p:=by
  unfold nd
  rw [hN,Zw,Zy (by omega)]
  simp
 have hold:r≠[]->Zbm t r=m::r.map (too t):=λh=>by unfold Zbm;rw [hm h]
 intro k hk
 simp only [ZI,List.length_singleton] at hk
 unfold okAt
 rw [Zk8]
 by_cases hlt:k<r.length
 ·have hne:r≠[]:=by intro e;subst e;simp at hlt
  rw [Z9 hlt]
  have:=hok k hlt
  unfold okAt at this
  have e1:nd t (r++[p]) k=nd t r k:=by rw [hnd k (by omega)];unfold nd;rw [hold hne]
  have e2:nd t (r++[p]) (k+1)=nd t r (k+1):=by rw [hnd (k+1) (by omega)];unfold nd;rw [hold hne]
  have e3:(Zbm t (r++[p])).take (k+1)=(Zbm t r).take (k+1):=by rw [hN,hold hne,List.take_append_of_le_length (by omega)]
  rw [e1,e2,e3]
  exact this
 obtain rfl:k=r.length:=by omega
 rw [Z8 hlt,Z9 rfl,hlast,hnd _ (Nat.le_refl _),← hf,hp,hN,List.take_append_of_le_length (by omega),ZV (by omega),hnew]
 by_cases h:r=[]
 ·subst h;rfl
 rw [hst h];simp
theorem Zrj (g:Good t)(hdeg:∀ x:Int,0<=x->x<t.Nodes->∃ k,k<t.Links.length/\((lk t k).A=x∨(lk t k).B=x)){n k:Int}(hn:Byte n)(hk:Byte k)(hN:200<=N):∃ r,Zhz N t n k=some r/\ZbK t r=true:=by
 have hL:t.Links.length<=1000:=by have:=g.l24;omega
 have h24:=g.l24
 have hn2:=g.n2
 obtain ⟨n0,n1⟩:=hn
 obtain ⟨k0,k1⟩:=hk
 unfold Zhz
 rw [ZaO (by omega) (by omega)]
 obtain ⟨m,m1,m2,m3⟩:=ZfY (v:=n) (b:=t.Nodes) n0 (by omega)
 rw [m1,ZZ]
 have key:∃ o,ZaY (λx:Int×(List Int)×(List Int)=>Zdl N t k x.1 x.2.1 x.2.2) N (m,[m],[])=some o/\∃ r,(o=.inl r∨o=.inr r)/\ZbK t r=true:=by
  refine ZcS (I:=λx:Int×List Int×List Int=>x.2.2.length<=8/\x.2.1=m::x.2.2.map (too t)/\x.1=x.2.1.getD x.2.2.length 0/\(x.2.2≠[]->frm t (at0 x.2.2 0)=m)/\(∀ j,j<x.2.2.length->okAt t x.2.2 j=true)/\Ze4 t x.1=true)
   (μ:=λx=>8-x.2.2.length) (Post:=λo:List Int⊕List Int=>∃ r,(o=.inl r∨o=.inr r)/\ZbK t r=true) ?_ N (m,[m],[]) ⟨by simp,by simp,by simp,λh=>absurd rfl h,λj hj=>by simp at hj,ZgI.2 ⟨m2,m3⟩⟩ (by simp;omega)
  rintro ⟨a,seen,out⟩ ⟨i1,i2,i3,i4,i5,i6⟩
  simp only at i1 i2 i3 i4 i5 i6
  have hval:out≠[]->ZbK t out=true:=λh=>by
   have:0<out.length:=List.length_pos_iff.2 h
   simp only [ZbK,Ze,Z6,Zb9]
   exact ⟨this,i1,i5⟩
  have hcond:(if decide (((List.length out:Nat):Int)<8)=true then if (((List.length out:Nat):Int)==0)=true then some true else (idx t.Station a).bind λe517=>some (!e517) else some false)=some (decide (out.length<8)&&(decide (out.length=0) || !stB t a)):=by
   rw [Zf9 g.st i6]
   by_cases h8:out.length<8
   ·rw [Z9 (by simp;omega),decide_eq_true h8]
    by_cases h0:out.length=0
    ·rw [Z9 (by simp [h0]),decide_eq_true h0];rfl
    rw [Z8 (by simp;intro e;rw [e] at h0;exact h0 rfl),decide_eq_false h0];rfl
   rw [Z8 (by simp;omega),decide_eq_false h8];rfl
  have hseen:seen.length=out.length+1:=by rw [i2];simp
  have hbody:Zdl N t k a seen out=(some (decide (out.length<8)&&(decide (out.length=0) || !stB t a))).bind λj=>if j=true then (ZfB N t a).bind λr521=>(ZaY (λx:Int×(List Int)=>Zce N t seen r521 x.1 x.2) N (0,[])).bind λo1547 =>
    if (((List.length o1547:Nat):Int)==0)=true then some (.inr (.inr out)) else (remI (w64 (w64 k+w64 (3*((List.length out:Nat):Int)))) ((List.length o1547:Nat):Int)).bind λm1552=>(idx o1547 m1552).bind λe1553=>(appI 8 out [e1553]).bind λl1558=>(Zea N t e1553).bind λr1559=>(appI 8 seen [r1559]).bind λl1562=>some (.inl (r1559,l1562,l1558))
    else some (.inr (.inl out)):=by
   unfold Zdl
   rw [hcond]
  show (∃ y,Zdl N t k a seen out=some (.inl y)/\_/\_)∨_
  rw [hbody,ZZ]
  cases hj:(decide (out.length<8)&&(decide (out.length=0) || !stB t a)) with
  | false =>
   right
   refine ⟨_,rfl,out,.inl rfl,hval λe=>?_⟩
   subst e
   simp at hj
  | true =>
   simp only [Ze,Z6,Zj,Zh] at hj
   have hpq:∀ p,p∈PF (λp=>frm t p==a) (2*t.Links.length)↔Zc9 t p=true/\frm t p=a:=λp=>by
    rw [Zy3,beq_iff_eq]
    simp only [Zc9,Ze,Z6]
    constructor
    ·rintro ⟨h1,h2,h3⟩;exact ⟨⟨h1,by omega⟩,h3⟩
    rintro ⟨⟨h1,h2⟩,h3⟩;exact ⟨h1,by omega,h3⟩
   have hql:=Ztz (λp=>frm t p==a) (2*t.Links.length)
   rw [Z9 rfl,ZnJ g a hN,ZZ,Zr5 g (by omega) (by omega) (λp hp=>((hpq p).1 hp).1) hN,ZZ]
   have hmem:∀ p,p∈(PF (λp=>frm t p==a) (2*t.Links.length)).filter (λp => !seen.contains (too t p))↔Zc9 t p=true/\frm t p=a/\seen.contains (too t p)=false:=λp=>by
    rw [List.mem_filter,hpq,Zh,and_assoc]
   have hll:((PF (λp=>frm t p==a) (2*t.Links.length)).filter (λp => !seen.contains (too t p))).length<=100:=Nat.le_trans (List.length_filter_le _ _) (by omega)
   generalize (PF (λp=>frm t p==a) (2*t.Links.length)).filter (λp => !seen.contains (too t p))=next at hmem hll
   by_cases hz:next.length=0
   ·right
    rw [Z9 (by simp [hz])]
    refine ⟨_,rfl,out,.inr rfl,hval λe=>?_⟩
    subst e
    have ham:a=m:=by rw [i3,i2];rfl
    obtain ⟨q,hq1,hq2⟩:=hdeg m m2 m3
    have hlink:=Zdm (g.links q hq1).1
    have hx:∃ p,Zc9 t p=true/\frm t p=m/\too t p≠m:=by
     rcases hq2 with h|h
     ·refine ⟨2*(q:Int),by simp only [Zc9,Ze,Z6];omega,?_,?_⟩
      ·unfold frm plk
       rw [show Int.tmod (2*(q:Int)) 2=0 by rw [Zm (by omega)];omega,show (Int.tdiv (2*(q:Int)) 2).toNat=q by rw [Zl (by omega)];omega]
       simpa [lk] using h
      unfold too plk
      rw [show Int.tmod (2*(q:Int)) 2=0 by rw [Zm (by omega)];omega,show (Int.tdiv (2*(q:Int)) 2).toNat=q by rw [Zl (by omega)];omega]
      have:(lk t q).B≠m:=λe=>hlink.2.2 (by rw [h,e])
      simpa [lk] using this
     refine ⟨2*(q:Int)+1,by simp only [Zc9,Ze,Z6];omega,?_,?_⟩
     ·unfold frm plk
      rw [show Int.tmod (2*(q:Int)+1) 2=1 by rw [Zm (by omega)];omega,show (Int.tdiv (2*(q:Int)+1) 2).toNat=q by rw [Zl (by omega)];omega]
      simpa [lk] using h
     unfold too plk
     rw [show Int.tmod (2*(q:Int)+1) 2=1 by rw [Zm (by omega)];omega,show (Int.tdiv (2*(q:Int)+1) 2).toNat=q by rw [Zl (by omega)];omega]
     have:(lk t q).A≠m:=λe=>hlink.2.2 (by rw [h,e])
     simpa [lk] using this
    obtain ⟨p,p1,p2,p3⟩:=hx
    have:p∈next:=(hmem p).2 ⟨p1,by rw [ham];exact p2,by rw [i2];simp [p3]⟩
    rw [List.eq_nil_of_length_eq_zero hz] at this
    cases this
   left
   rw [Z8 (by simp;intro e;rw [e] at hz;exact hz rfl)]
   have hv:0<=w64 (w64 k+w64 (3*((List.length out:Nat):Int))):=by
    rw [ZaO (x:=k) (by omega) (by omega),ZaO (x:=3*((List.length out:Nat):Int)) (by omega) (by omega),ZaO (by omega) (by omega)];omega
   obtain ⟨q,q1,q2,q3⟩:=ZfY (b:=((List.length next:Nat):Int)) hv (by omega)
   rw [q1,ZZ,Zlw q2 (by omega),ZZ]
   have hin:next[q.toNat]'(by omega)∈next:=List.getElem_mem _
   generalize next[q.toNat]'(by omega)=p at hin
   obtain ⟨p1,p2,p3⟩:=(hmem p).1 hin
   rw [Zhb (by simp;omega) (by omega),ZZ,ZeV hL p1,ZZ,Zhb (by simp;omega) (by omega),ZZ]
   have hne:=ZgL g p1
   have hlen1:(out++[p]).length=out.length+1:=by simp
   refine ⟨_,rfl,⟨?_,?_,?_,?_,?_,hne.2.1⟩,?_⟩
   ·simp only;omega
   ·simp only;rw [i2];simp
   ·simp only
    rw [hlen1,Zw,Zy (by omega)]
    simp [hseen]
   ·simp only
    intro _
    rw [Zk8]
    by_cases h0:0<out.length
    ·rw [Z9 h0];exact i4 (List.length_pos_iff.1 h0)
    have:out=[]:=List.eq_nil_of_length_eq_zero (by omega)
    subst this
    rw [Z8 (by simp),Z9 (by simp),p2,i3,i2]
    rfl
   ·simp only
    refine Zsf i4 (λh=>?_) i5 p1 ?_ (λh=>?_) ?_
    ·subst h;rw [p2,i3,i2];rfl
    ·rw [p2,i3,i2]
    ·rw [p2]
     rcases hj.2 with h' | h'
     ·exact absurd (List.eq_nil_of_length_eq_zero h') h
     exact h'
    rw [← i2];exact p3
   simp only;omega
 obtain ⟨o,o1,r,o2,o3⟩:=key
 rw [o1,ZZ]
 rcases o2 with rfl|rfl
 ·exact ⟨r,rfl,o3⟩
 exact ⟨r,rfl,o3⟩
end
end Go.Sh

namespace Go.Sh
open Go Go.Eng
theorem Zol (x:Int):Byte (IntKind.u8.wrap x):=by
 unfold Byte IntKind.wrap
 simp only [IntKind.bits,IntKind.signed]
 have h1:=Int.emod_nonneg x (show (2 ^ 8:Int)≠0 by decide)
 have h2:=Int.emod_lt_of_pos x (show (0:Int)<2 ^ 8 by decide)
 simp only [Bool.false_and,Zg,Z7]
 constructor<;>omega
section
variable {N:Nat} {t:Zag} {s:Zah}
theorem ZqU {r:List Int}(h1:1<=r.length)(h:r.length<=100):idx r (w64 (((List.length r:Nat):Int)-1))=some (at0 r (r.length-1)):=by
 rw [ZaO (by omega) (by omega),show ((List.length r:Nat):Int)-1=((r.length-1:Nat):Int) by omega,ZcT (by omega),ZjS (by omega)]
theorem ZoT {r:List Int}(h1:1<=r.length):idx r 0=some (at0 r 0):=by
 rw [show (0:Int)=((0:Nat):Int) from rfl,ZcT (by omega),ZjS (by omega)]
theorem ZtX {r:List Int}(h1:1<=r.length):nd t r r.length=too t (at0 r (r.length-1)):=by
 have:=Zhj (t:=t) (r:=r) (k:=r.length-1) (by omega)
 rwa [show r.length-1+1=r.length by omega] at this
theorem ZnC (g:Good t)(s:Zah)(r:List Int)(hN:200<=N) :
  ((Zdr N t r).bind λr530=>(if (!r530) then (some true) else ((idx r 0).bind λe533=>((Zdd N t e533).bind λr534=>(if (r534 != s.Talker) then (some true) else ((idx r (w64 (((List.length r:Nat):Int)-1))).bind λe537=>((Zea N t e537).bind λr538=>(some (r538 != s.Listener)))))))))=some (!Zgn t s r):=by
 have hL:t.Links.length<=1000:=by have:=g.l24;omega
 rw [ZiE g r hN,ZZ]
 unfold Zgn
 cases hv:ZbK t r with
 | false=>rfl
 | true =>
  obtain ⟨h1,h8,hp⟩:=ZcR hv
  simp only [Zi,Zg,Z7]
  rw [ZoT h1,ZZ,Zew hL (hp 0 (by omega)),ZZ,ZqU h1 (by omega),ZZ,ZeV hL (hp _ (by omega)),ZZ,ZtV,ZtX h1]
  by_cases e:frm t (at0 r 0)=s.Talker
  ·have:(frm t (at0 r 0)!=s.Talker)=false:=by simp [e]
   rw [this]
   simp only [Zg,Z7,e,beq_self_eq_true,Zk]
   rfl
  have:(frm t (at0 r 0)!=s.Talker)=true:=by simp [e]
  rw [this]
  simp only [Zaa,beq_eq_false_iff_ne.2 e,Bool.false_and,Bool.and_false,Bool.not_false]
theorem ZmB (g:Good t){s:Zah}(hl:s.Routes.length<=2)(hN:200<=N):ZaY (λx:Int=>ZcX N t s x) N 0=some (if s.Routes.all (Zgn t s) then .inl () else .inr false):=by
 have:=ZbD (n:=s.Routes.length) (p:=λk=>Zgn t s (s.Routes.getD k [])) (body:=λx:Int=>ZcX N t s x) (bad:=.inr false) (fin:=.inl ()) (λk hk=>by
  unfold ZcX
  rw [Z9 (by simp;omega),ZcT hk,ZZ,Zd1 hk,ZnC g s _ hN,ZZ,ZaW (by omega)]
  cases Zgn t s s.Routes[k]<;>rfl) (by unfold ZcX;rw [Z8 (by simp)]) (N:=N) (by omega)
 rw [this,Zkr s.Routes [] (Zgn t s)]
theorem Zqf (g:Good t){s:Zah}(hl:s.Routes.length<=2)(hN:200<=N):ZaY (λx:Int=>ZeF N t s x) N 0=some (if s.Routes.all (Zgn t s) then .inl () else .inr false):=ZmB g hl hN
theorem Zrm (g:Good t){s:Zah}(hl:lenB s=true)(hr:s.Routes.all (Zgn t s)=true)(hN:200<=N) :
  (if (((List.length s.Routes:Nat):Int)==1) then (some true) else ((idx s.Routes 0).bind λe545=>((idx s.Routes 1).bind λe546=>((ZdQ N t e545 e546).bind λr547=>(some r547)))))=some (Zqj t s):=by
 simp only [lenB,Ze,Z6] at hl
 unfold Zqj
 by_cases h2:s.Routes.length<2
 ·rw [Z9 (by simp;omega)];simp [h2]
 rw [Z8 (by simp;omega),show (0:Int)=((0:Nat):Int) from rfl,show (1:Int)=((1:Nat):Int) from rfl,ZcT (by omega),ZcT (by omega)]
 simp only [ZZ]
 have e0:=Zhw hr (k:=0) (by omega)
 have e1:=Zhw hr (k:=1) (by omega)
 rw [Zd1 (by omega)] at e0 e1
 rw [Zjv g e0.1 e1.1 hN,ZZ,Zd1 (by omega),Zd1 (by omega)]
 simp [h2]
theorem Zju (g:Good t)(s:Zah)(hN:200<=N):Zfz N t s=some (ZbI t s):=by
 have head:((Zdi N s.Id 1 4095).bind λr1=>(if (!r1) then (some true) else ((Zdh N t s.Talker).bind λr4=>(if (!r4) then (some true) else ((Zdh N t s.Listener).bind λr7=>(if (!r7) then (some true) else (if (s.Talker==s.Listener) then (some true) else ((Zdi N s.Size 84 1542).bind λr12=>(if (!r12) then (some true) else ((Zdi N s.Deadline 1 1099511627776).bind λr15=>(some (!r15))))))))))))=some (!Zqr t s):=by
  simp only [ZhS,ZlP g,ZZ]
  unfold Zqr
  cases inB s.Id 1 4095<;>cases Zns t s.Talker<;>cases Zns t s.Listener<;>cases h4:(s.Talker==s.Listener)<;>cases inB s.Size 84 1542<;>cases inB s.Deadline 1 1099511627776<;>simp [bne,h4]
 have rest:∀ L:Option (Unit⊕Bool),(s.Routes.length<=2->L=some (if s.Routes.all (Zgn t s) then .inl () else .inr false))->(if ((decide (((List.length s.Routes:Nat):Int)<1))||(decide (((List.length s.Routes:Nat):Int)>2))) then (some false) else (L.bind λo541=>match o541 with
   | (.inl p542)=>(((if (((List.length s.Routes:Nat):Int)==1) then (some true) else ((idx s.Routes 0).bind λe545=>((idx s.Routes 1).bind λe546=>((ZdQ N t e545 e546).bind λr547=>(some r547)))))).bind λ(j548:Bool)=>(some j548))
   | (.inr p549)=>(some p549)))=some (lenB s&&(s.Routes.all (Zgn t s)&&Zqj t s)):=by
  intro L hL
  cases hl:lenB s with
  | false =>
   rw [Z9]
   ·rfl
   rw [Bool.eq_false_iff] at hl
   simp only [lenB,ne_eq,Ze,Z6] at hl
   simp only [Zj,Z6]
   omega
  | true =>
   have hl':=hl
   simp only [lenB,Ze,Z6] at hl'
   rw [Z8 (by simp only [Zj,Z6];omega),hL hl'.2]
   cases hr:s.Routes.all (Zgn t s) with
   | false=>rfl
   | true =>
    simp only [Zaa,ZZ]
    rw [Zrm g hl hr hN]
    rfl
 unfold Zfz
 rw [head,ZZ]
 unfold ZbI
 cases hh:Zqr t s with
 | false=>rfl
 | true =>
  simp only [Zi,Zg,Z7,Zk]
  unfold Zn8
  simp only [ZhS,ZZ]
  by_cases c7:(s.Class==7)=true
  ·rw [Z9 c7,Z9 c7]
   have r1:=rest _ (λh=>ZmB g h hN)
   cases inB s.Period 1 240 with
   | false=>rfl
   | true=>cases (s.Bucket.Burst==0) with
    | false=>rfl
    | true=>cases (s.Bucket.Rate==0) with
     | false=>rfl
     | true=>exact r1
  rw [Z8 c7,Z8 c7]
  by_cases c6:(s.Class==6)=true
  ·rw [Z9 c6,Z9 c6]
   have r2:=rest _ (λh=>Zqf g h hN)
   unfold bne
   cases (s.Period==0) with
   | false=>rfl
   | true=>cases inB s.Bucket.Burst s.Size 1048576 with
    | false=>rfl
    | true=>cases inB s.Bucket.Rate 1 2097152 with
     | false=>rfl
     | true=>exact r2
  rw [Z8 c6,Z8 c6];rfl
structure SDOK (d:ZbN):Prop where
 node:Byte d.Node
 way:Byte d.Way
 size:Byte d.Size
 period:Byte d.Period
 burst:Byte d.Burst
 rate:0<=d.Rate/\d.Rate<=65535
def ZsI (t:Zag):Prop:=∀ x:Int,0<=x->x<t.Nodes->∃ k,k<t.Links.length/\((lk t k).A=x∨(lk t k).B=x)
theorem ZiB (g:Good t)(hdeg:ZsI t){n k:Int}(hn:Byte n)(hk:Byte k)(hN:200<=N):∃ r,Zgq N t n k=some r/\(r=[]∨ZbK t r=true):=by
 have hL:t.Links.length<=1000:=by have:=g.l24;omega
 unfold Zgq
 obtain ⟨o,o1,o2⟩:=ZcS (body:=λx:Int=>Zet N t n k x) (I:=λx:Int=>∃ j:Nat,x=j/\j<=16) (μ:=λx=>16-x.toNat) (Post:=λo:Unit⊕List Int=>o=.inl ()∨∃ r,o=.inr r/\ZbK t r=true) (by
  rintro x ⟨j,rfl,hj⟩
  simp only [Zet]
  by_cases h16:j<16
  ·rw [Z9 (by simp;omega)]
   obtain ⟨r,r1,r2⟩:=Zrj (N:=N) g hdeg hn (Zol (k+IntKind.u8.wrap (j:Int))) hN
   obtain ⟨h1,h8,hp⟩:=ZcR r2
   have p0:=hp 0 (by omega)
   have pl:=hp (r.length-1) (by omega)
   rw [r1,ZZ,Z9 (by simp;omega),ZiE g r hN,r2,ZZ,Z9 rfl,ZoT h1,ZZ,Zew hL p0,ZZ,Zf9 g.st (ZgL g p0).1,ZZ,ZqU h1 (by omega),ZZ,ZeV hL pl,ZZ,
    Zf9 g.st (ZgL g pl).2.1,ZZ]
   have hne:neL r=some ():=by
    cases r with
    | nil=>simp at h1
    | cons a l=>rfl
   cases hc:(if stB t (frm t (at0 r 0))=true then some (stB t (too t (at0 r (r.length-1)))) else some false) with
   | none=>split at hc<;>cases hc
   | some b =>
    rw [ZZ]
    cases b with
    | true=>right;exact ⟨_,by rw [Z9 rfl,hne];rfl,.inr ⟨r,rfl,r2⟩⟩
    | false=>left;exact ⟨_,by rw [Z8 (by decide),ZaW (by omega)],⟨j+1,rfl,by omega⟩,by simp;omega⟩
  right
  exact ⟨_,by rw [Z8 (by simp;omega)],.inl rfl⟩) N 0 ⟨0,rfl,by omega⟩ (by simp;omega)
 rw [o1,ZZ]
 rcases o2 with rfl|⟨r,rfl,hr⟩
 ·exact ⟨[],rfl,.inl rfl⟩
 exact ⟨r,rfl,.inr hr⟩
theorem ZhT (g:Good t)(hdeg:ZsI t){d:ZbN}(hd:SDOK d)(id:Int)(hN:200<=N):∃ x b,Zdj N d t id=some (x,b)/\(b=true->ZbI t x=true/\x.Id=id):=by
 have hL:t.Links.length<=1000:=by have:=g.l24;omega
 have hn2:=g.n2
 have hn12:=g.n12
 unfold Zdj
 rw [ZaO (x:=d.Node) (by have:=hd.node.1;omega) (by have:=hd.node.2;omega)]
 obtain ⟨m,m1,m2,m3⟩:=ZfY (v:=d.Node) (b:=t.Nodes) hd.node.1 (by omega)
 rw [m1,ZZ]
 obtain ⟨o,o1,o2⟩:=ZcS (body:=λx:Int×Int=>Zb5 N t x.1 x.2) (I:=λx:Int×Int=>(0<=x.1/\x.1<t.Nodes)/\0<=x.2/\x.2<=t.Nodes) (μ:=λx=>(t.Nodes-x.2).toNat) (Post:=λo:Int=>0<=o/\o<t.Nodes) (by
  rintro ⟨a,i⟩ ⟨⟨a0,a1⟩,i0,i1⟩
  simp only at a0 a1 i0 i1
  simp only [Zb5]
  by_cases hi:i<t.Nodes
  ·rw [Z9 (by simp;omega),Zf9 g.st (ZgI.2 ⟨a0,a1⟩),ZZ,ZZ]
   cases stB t a with
   | true=>right;exact ⟨a,by rfl,a0,a1⟩
   | false =>
    left
    obtain ⟨q,q1,q2,q3⟩:=ZfY (v:=a+1) (b:=t.Nodes) (by omega) (by omega)
    rw [Z9 (by simp),ZaO (by omega) (by omega),q1,ZZ,ZaO (by omega) (by omega)]
    exact ⟨_,rfl,⟨⟨q2,q3⟩,by simp only;omega,by simp only;omega⟩,by simp only;omega⟩
  right
  rw [Z8 (by simp;omega)]
  exact ⟨a,rfl,a0,a1⟩) N (m,0) ⟨⟨m2,m3⟩,by simp,by simp only;omega⟩ (by simp only;omega)
 rw [o1,ZZ]
 obtain ⟨r,r1,r2⟩:=ZiB (N:=N) g hdeg (Zol o) hd.way hN
 rw [r1,ZZ]
 rcases r2 with rfl|r2
 ·exact ⟨_,_,rfl,λh=>by cases h⟩
 obtain ⟨h1,h8,hp⟩:=ZcR r2
 have hne:¬ List.isEmpty r=true:=by cases r with
  | nil=>simp at h1
  | cons a l=>simp
 rw [Z8 hne,ZoT h1,ZZ,Zew hL (hp 0 (by omega)),ZZ,ZqU h1 (by omega),ZZ,ZeV hL (hp _ (by omega)),ZZ]
 have hj:∃ j:Int×Int×Int×Int,(if d.Reserved=true then some ((6:Int),(0:Int),w64 (w64 (84+w64 d.Size)+w64 (4*w64 d.Burst)),w64 (1+w64 d.Rate)) else (idx [4,6,8,12,16,24,48,10,5,240] (Int.tmod d.Period 10)).bind λe1021=>some (7,e1021,0,0))=some j:=by
  by_cases hr:d.Reserved=true
  ·rw [Z9 hr];exact ⟨_,rfl⟩
  rw [Z8 hr]
  have hm:Int.tmod d.Period 10=d.Period%10:=Zm hd.period.1
  rw [hm,Zlw (Int.emod_nonneg _ (by decide)) (by have:=Int.emod_lt_of_pos d.Period (show (0:Int)<10 by decide);simp only [ZJ,List.length_nil];omega)]
  exact ⟨_,rfl⟩
 obtain ⟨j,j1⟩:=hj
 rw [j1,ZZ]
 obtain ⟨o',p1,p2⟩:=ZcS (body:=λx:Int×(List (List Int))=>Zb4 N d t o r (too t (at0 r (r.length-1))) x.1 x.2) (I:=λx:Int×List (List Int)=>∃ k:Nat,x.1=k/\k<=24/\x.2.length<=k+1) (μ:=λx=>24-x.1.toNat) (Post:=λ_:List (List Int)=>True) (by
  rintro ⟨a,l⟩ ⟨k,rfl,hk,hl⟩
  simp only at hl
  simp only [Zb4]
  cases hc:(if decide ((k:Int)<24)=true then if d.Two=true then some (((List.length l:Nat):Int)==1) else some false else some false) with
  | none=>split at hc;split at hc;all_goals cases hc
  | some b =>
   rw [ZZ]
   cases b with
   | false=>right;exact ⟨l,rfl,trivial⟩
   | true =>
    left
    have hk24:k<24:=by
     by_cases h:k<24
     ·exact h
     rw [Z8 (by simp;omega)] at hc;cases hc
    rw [Z9 rfl]
    obtain ⟨q,q1,q2⟩:=ZiB (N:=N) g hdeg (Zol o) (Zol (d.Way+IntKind.u8.wrap (k:Int))) hN
    rw [q1,ZZ]
    have fin:∀ (X:Option (List (List Int))) (l':List (List Int)),X=some l'->l'.length<=k+1+1->∃ y,(X.bind λj2037=>some (Sum.inl (β:=List (List Int)) (w64 ((k:Int)+1),j2037)))=some (Sum.inl (β:=List (List Int)) y)/\(∃ k_1:Nat,y.1=(k_1:Int)/\k_1<=24/\y.2.length<=k_1+1)/\24-y.1.toNat<24-(k:Int).toNat:=by
     intro X l' hX hl'
     subst hX
     exact ⟨_,by rw [ZZ,ZaW (by omega)],⟨k+1,rfl,by omega,hl'⟩,by simp only [Zn];omega⟩
    rcases q2 with rfl|q2
    ·exact fin _ l rfl (by omega)
    obtain ⟨w1,w8,wp⟩:=ZcR q2
    have wne:¬ List.isEmpty q=true:=by cases q with
     | nil=>simp at w1
     | cons a l=>simp
    rw [Z8 wne,ZqU w1 (by omega),ZZ,ZeV hL (wp _ (by omega)),ZZ,Zjv g r2 q2 hN,ZZ]
    cases hc2:(if (too t (at0 q (q.length-1))==too t (at0 r (r.length-1)))=true then some (Znm t r q) else some false) with
    | none=>split at hc2<;>cases hc2
    | some b2 =>
     rw [ZZ]
     cases b2 with
     | false=>exact fin _ l rfl (by omega)
     | true=>exact fin _ (l++[q]) (by rw [Z9 rfl,Zhb (by simp;omega) (by omega)];rfl) (by simp;omega)) N (0,[r]) ⟨0,rfl,by omega,by simp⟩ (by simp;omega)
 rw [p1,ZZ,Zju g _ hN,ZZ]
 exact ⟨_,_,rfl,λh=>⟨h,rfl⟩⟩
structure SL (t:Zag) (l:List Zah):Prop where
 len:l.length<=6
 ok:∀ k,k<l.length->ZbI t (l.getD k dS)=true/\idAt l k=((k+1:Nat):Int)
theorem SL.snoc {l:List Zah}(h:SL t l)(h6:l.length<6){x:Zah}(hx:ZbI t x=true)(hi:x.Id=((l.length+1:Nat):Int)):SL t (l++[x]):=by
 refine ⟨by simp;omega,λk hk=>?_⟩
 unfold idAt
 by_cases e:k<l.length
 ·have:=h.ok k e
  unfold idAt at this
  rw [Zd1 hk,List.getElem_append_left e,← Zd1 e dS]
  exact this
 have:k=l.length:=by simp at hk;omega
 subst this
 rw [Zd1 hk]
 simp only [List.getElem_append_right (Nat.le_refl _),Nat.sub_self,List.getElem_cons_zero]
 exact ⟨hx,hi⟩
theorem Zj6 (g:Good t)(hdeg:ZsI t){L:List ZbN}(hL:∀ d∈L,SDOK d)(hlen:L.length<=maxLen)(hN:200+L.length<=N):∃ l,Zfc N t L=some l/\SL t l:=by
 unfold Zfc
 obtain ⟨o,o1,o2⟩:=ZcS (body:=λx:Int×(List Zah)=>Zdc N t L x.1 x.2) (I:=λx:Int×List Zah=>∃ k:Nat,x.1=k/\k<=L.length/\SL t x.2) (μ:=λx=>L.length-x.1.toNat) (Post:=SL t) (by
  rintro ⟨a,l⟩ ⟨k,rfl,hk,hl⟩
  simp only at hl
  simp only [Zdc]
  by_cases hkl:k<L.length
  ·rw [Z9 (by simp;omega),ZZ]
   by_cases h6:l.length<6
   ·rw [Z9 (by simp;omega),ZcT hkl,ZZ]
    obtain ⟨x,b,x1,x2⟩:=ZhT (N:=N) g hdeg (hL _ (List.getElem_mem hkl)) (w64 (((List.length l:Nat):Int)+1)) (by omega)
    rw [x1,ZZ]
    have hw:w64 ((k:Int)+1)=((k+1:Nat):Int):=by
     rw [ZaO (by omega) (by have:L.length<=9223372036854775807:=hlen;omega)];omega
    left
    cases b with
    | false=>exact ⟨_,by rw [Z8 (by simp),ZZ,hw],⟨k+1,rfl,by omega,hl⟩,by simp only [Zn];omega⟩
    | true =>
     obtain ⟨y1,y2⟩:=x2 rfl
     have hs:=hl.snoc h6 y1 (by rw [y2,ZaW (by omega)])
     exact ⟨_,by rw [Z9 rfl,Zhb (by simp;omega) (by omega),ZZ,ZZ,hw],⟨k+1,rfl,by omega,hs⟩,by simp only [Zn];omega⟩
   right
   exact ⟨l,by rw [Z8 (by simp;omega)],hl⟩
  right
  exact ⟨l,by rw [Z8 (by simp;omega)];rfl,hl⟩) N (0,[]) ⟨0,rfl,by omega,⟨by simp,λk hk=>by simp at hk⟩⟩ (by simp;omega)
 exact ⟨o,by rw [o1];rfl,o2⟩
theorem Zj7 {a b c:Int}(ha:Byte a)(hb:Byte b)(hc:Byte c):∃ u,Zgh N a b c=some u/\ZeZ u=true:=by
 obtain ⟨a0,a1⟩:=ha
 obtain ⟨b0,b1⟩:=hb
 obtain ⟨c0,c1⟩:=hc
 refine ⟨_,rfl,?_⟩
 have hm:Int.tmod b 40=b%40:=Zm b0
 have e1:=Int.emod_nonneg b (show (40:Int)≠0 by decide)
 have e2:=Int.emod_lt_of_pos b (show (0:Int)<40 by decide)
 rw [hm,ZaO (x:=a) (by omega) (by omega),ZaO (x:=20*a) (by omega) (by omega),ZaO (x:=100+20*a) (by omega) (by omega),ZaO (x:=b%40) (by omega) (by omega),ZaO (x:=c) (by omega) (by omega)]
 simp only [ZeZ,inB,Ze,Z6]
 refine ⟨⟨?_,?_⟩,⟨?_,?_⟩,⟨?_,?_⟩,?_,?_⟩<;>omega
end
end Go.Sh

namespace Go.Sh
open Go Go.Eng
section
variable {N:Nat} {t:Zag} {u:ZaE} {s:Zah}
theorem ZlY {α:Type}{n k:Nat}(f:Nat->α)(h:k<n):idx ((List.range n).map f) (k:Int)=some (f k):=by
 rw [ZcT (by simpa using h)]
 simp
theorem ZqY (g:Good t)(hu:ZiZ u)(hs:ZjD s){r:List Int}(hp:∀ k,k<r.length->Zc9 t (at0 r k)=true){k:Nat}(hk:k+1<r.length) :
  (ZaU t u s r (k+1)).Early=Zbq t u (ZaU t u s r k)-2*u.Slack/\(ZaU t u s r (k+1)).Late=Zbq t u (ZaU t u s r k)+2*u.Slack ∧
  (ZaU t u s r (k+1)).Late<=(ZaU t u s r (k+1)).Open/\(ZaU t u s r (k+1)).Open<(ZaU t u s r (k+1)).Late+u.Grid/\(ZaU t u s r (k+1)).Open%u.Grid=0/\(ZaU t u s r k).Open<(ZaU t u s r (k+1)).Open:=by
 have hb:=Zgo g hu hs hp k (by omega)
 obtain ⟨o1,o2,o3⟩:=hb.told g hu
 have h0:=hb.op1
 have c:=ZoZ hu (x:=Zbq t u (ZaU t u s r k)+2*u.Slack) (by have:=hu.s1;omega)
 have:=hu.s1
 refine ⟨rfl,rfl,c.1,c.2.1,c.2.2,?_⟩
 show _<Zne u (Zbq t u (ZaU t u s r k)+2*u.Slack)
 omega
theorem Zgv (g:Good t)(hu:ZiZ u)(hs:ZjD s){r:List Int}(hp:∀ k,k<r.length->Zc9 t (at0 r k)=true)(h8:r.length<=8){k:Nat}(hk:k<r.length) :
  0<=(ZaU t u s r k).Open/\(ZaU t u s r k).Open<=20000000/\0<=Zbq t u (ZaU t u s r k)/\Zbq t u (ZaU t u s r k)<=20000000:=by
 have hb:=Zgo g hu hs hp k hk
 obtain ⟨o1,o2,o3⟩:=hb.told g hu
 have h0:=hb.op1
 have h1:=hb.op2
 omega
theorem SDOK.of {d:ZbN}(h:Zhl d):SDOK d:=by
 obtain ⟨_,_,h1,h2,h3,h4,h5,h6⟩:=h
 refine ⟨Zfo h1,Zfo h2,Zfo h3,Zfo h4,Zfo h5,?_⟩
 simpa [InK,Lit.wf,IntKind.min,IntKind.max,IntKind.signed,IntKind.bits] using h6
end
end Go.Sh
namespace Go.Sh
open Go Go.Eng
section
variable {N:Nat} {t:Zag} {u:ZaE} {s:Zah}
theorem Zsi (l:List Zah)(k:Nat):allB k (λj => !(idAt l j==idAt l k))=ZoM l k:=by
 unfold ZoM allB
 rw [List.not_any_eq_all_not]
theorem ZkO (l:List Zah)(hN:200<=N):ZeG N t l=some (allR t l):=by
 unfold ZeG allR
 rw [Zjx (by omega),ZZ]
 cases hT:Ze8 t with
 | false=>rfl
 | true =>
  have g:=ZbQ.1 hT
  simp only [Zi,Zaa,Zg,Z7]
  by_cases h12:l.length<=12
  ·rw [Z8 (by simp;omega),Z9 h12]
   have:=ZbD (n:=l.length) (p:=λk=>ZbI t (l.getD k dS)) (body:=λx:Int=>Zcq N t l x) (bad:=.inr 321) (fin:=.inl ()) (λk hk=>by
    unfold Zcq
    rw [Z9 (by simp;omega),ZcT hk,ZZ,Zd1 hk,Zju g _ hN,ZZ,ZaW (by omega)]
    cases ZbI t l[k]<;>rfl) (by unfold Zcq;rw [Z8 (by simp)]) (N:=N) (by omega)
   rw [this,Zkr l dS (ZbI t)]
   cases l.all (ZbI t) with
   | false=>rfl
   | true =>
    simp only [Zaa,ZZ]
    have:=ZbD (n:=l.length) (p:=ZoM l) (body:=λx:Int=>ZbS N l x) (bad:=.inr 322) (fin:=.inl ()) (λk hk=>by
     show ZbS N l (k:Int)=_
     unfold ZbS
     rw [Z9 (by simp;omega)]
     have hin:=ZbD (n:=k) (p:=λj => !(idAt l j==idAt l k)) (body:=λx:Int=>ZbR N l (k:Int) x) (bad:=.inr 322) (fin:=.inl ()) (λj hj=>by
      show ZbR N l (k:Int) (j:Int)=_
      unfold ZbR
      rw [Z9 (by simp;omega),ZcT (show j<l.length by omega),ZZ,ZcT hk,ZZ,ZaW (by omega)]
      have e1:idAt l j=l[j].Id:=by unfold idAt;rw [Zd1 (by omega)]
      have e2:idAt l k=l[k].Id:=by unfold idAt;rw [Zd1 hk]
      rw [e1,e2]
      cases l[j].Id==l[k].Id<;>rfl) (by show ZbR N l (k:Int) (k:Int)=_;unfold ZbR;rw [Z8 (by simp)]) (N:=N) (by omega)
     rw [hin,Zsi,ZaW (by omega)]
     cases ZoM l k<;>rfl) (by show ZbS N l (l.length:Int)=_;unfold ZbS;rw [Z8 (by simp)]) (N:=N) (by omega)
    rw [this]
    cases allB l.length (ZoM l)<;>rfl
  rw [Z9 (by simp;omega),Z8 h12]
end
end Go.Sh
namespace Go.Sh
open Go Go.Eng
section
variable {N:Nat} {t:Zag} {u:ZaE} {s:Zah}
theorem ZtF {G X:Int}(hG:1<=G)(hG2:G<=10000)(hX:0<=X)(hX2:X<=25000000)(hN:30000000<=N){body:Int->Option (Int⊕Int)}(hb:∀ x,body x=if decide (x<X)=true then some (.inl (w64 (x+G))) else some (.inr x)) :
  ZaY body N 0=some ((X+G-1)/G*G):=by
 obtain ⟨o,o1,o2⟩:=ZcS (body:=body) (I:=λx:Int=>0<=x/\x<X+G/\x%G=0) (μ:=λx=>(X+G-x).toNat) (Post:=λr:Int=>X<=r/\r<X+G/\r%G=0) (by
  rintro x ⟨x0,x1,x2⟩
  rw [hb]
  by_cases h:x<X
  ·left
   refine ⟨_,by rw [Z9 (by simpa using h),ZaO (by omega) (by omega)],⟨by omega,by omega,?_⟩,by omega⟩
   rw [Int.add_emod_right];exact x2
  right
  exact ⟨x,by rw [Z8 (by simpa using h)],by omega,x1,x2⟩) N 0 ⟨by omega,by omega,by simp⟩ (by omega)
 rw [o1]
 obtain ⟨p1,p2,p3⟩:=o2
 congr 1
 have e1:=Int.mul_ediv_add_emod (X+G-1) G
 have e2:=Int.emod_nonneg (X+G-1) (show G≠0 by omega)
 have e3:=Int.emod_lt_of_pos (X+G-1) (show 0<G by omega)
 have e4:=Int.mul_ediv_add_emod o G
 rw [Int.mul_comm] at e1 e4
 have hq:o/G=(X+G-1)/G:=by
  generalize (X+G-1)/G=q at *
  generalize o/G=p at *
  rcases Int.lt_trichotomy p q with h|h|h
  ·have:(p+1)*G<=q*G:=Int.mul_le_mul_of_nonneg_right (by omega) (by omega)
   rw [Int.add_mul] at this
   omega
  ·exact h
  have:(q+1)*G<=p*G:=Int.mul_le_mul_of_nonneg_right (by omega) (by omega)
  rw [Int.add_mul] at this
  omega
 rw [← hq]
 omega
theorem Zlj (g:Good t)(hu:ZiZ u)(hs:ZjD s){r:List Int}(hv:ZbK t r=true)(hN:30000000<=N):Zhy N t u s r=some ((List.range r.length).map (ZaU t u s r)):=by
 obtain ⟨h1,h8,hp⟩:=ZcR hv
 have hL:t.Links.length<=1000:=by have:=g.l24;omega
 unfold Zhy
 rw [ZoT h1,ZZ,ZZ,Zlm hL (hp 0 (by omega)),ZZ]
 have l0:=ZmT g hs (hp 0 (by omega))
 rw [ZaO (x:=s.Size*(plk t (at0 r 0)).Per) (by omega) (by omega)]
 have hstep:∀ k:Nat,1<=k->k<r.length->Zdk N t u s r (k:Int) ((List.range k).map (ZaU t u s r))=some (.inl (((k+1:Nat):Int),(List.range (k+1)).map (ZaU t u s r))):=by
  intro k k1 hk
  obtain ⟨j,rfl⟩:∃ j,k=j+1:=⟨k-1,by omega⟩
  unfold Zdk
  have hb:=Zgo g hu hs hp j (by omega)
  obtain ⟨n1,n2,n3,n4,n5,n6⟩:=ZqY g hu hs hp hk
  obtain ⟨b1,b2,b3,b4⟩:=Zgv g hu hs hp h8 (show j<r.length by omega)
  obtain ⟨_,_,d1,d2⟩:=Zgt g hb.port
  have lo1:=hb.long1;have lo2:=hb.long2
  have s1:=hu.s1;have s2:=hu.s2;have g1:=hu.g1;have g2:=hu.g2;have p1:=hu.p1;have p2:=hu.p2
  have x3:idx ((List.range (j+1)).map (ZaU t u s r)) (w64 (((j+1:Nat):Int)-1))=some (ZaU t u s r j):=by
   rw [ZaO (by omega) (by omega),show ((j+1:Nat):Int)-1=(j:Int) by omega,ZlY _ (by omega)]
  rw [Z9 (by simp;omega),x3,ZZ,ZjB hL hb.port,ZZ,ZcT hk,ZZ,ZZ,← ZjS hk,Zlm hL (hp _ hk),ZZ]
  have lk:=ZmT g hs (hp _ hk)
  have htold:(ZaU t u s r j).Open+(ZaU t u s r j).Long+(plk t (ZaU t u s r j).Port).Delay+u.Proc=Zbq t u (ZaU t u s r j):=rfl
  have w1:w64 ((ZaU t u s r j).Open+(ZaU t u s r j).Long)=(ZaU t u s r j).Open+(ZaU t u s r j).Long:=ZaO (by omega) (by omega)
  have w2:w64 ((ZaU t u s r j).Open+(ZaU t u s r j).Long+(plk t (ZaU t u s r j).Port).Delay)=(ZaU t u s r j).Open+(ZaU t u s r j).Long+(plk t (ZaU t u s r j).Port).Delay:=ZaO (by omega) (by omega)
  have w3:w64 (Zbq t u (ZaU t u s r j))=Zbq t u (ZaU t u s r j):=ZaO (by omega) (by omega)
  have w4:w64 (2*u.Slack)=2*u.Slack:=ZaO (by omega) (by omega)
  have w5:w64 (Zbq t u (ZaU t u s r j)+2*u.Slack)=Zbq t u (ZaU t u s r j)+2*u.Slack:=ZaO (by omega) (by omega)
  have w6:w64 (Zbq t u (ZaU t u s r j)-2*u.Slack)=Zbq t u (ZaU t u s r j)-2*u.Slack:=ZaO (by omega) (by omega)
  have hup:=ZtF (N:=N) (G:=u.Grid) (X:=Zbq t u (ZaU t u s r j)+2*u.Slack) g1 g2 (by omega) (by omega) hN (body:=λx:Int=>Ze1 N u (ZaU t u s r j) (plk t (ZaU t u s r j).Port).Delay x) (λx=>by
   simp only [Ze1]
   rw [w1,w2,htold,w3,w4,w5])
  rw [hup,ZZ,w1,w2,htold,w3,w4,w5,w6,ZaO (x:=s.Size*(plk t (at0 r (j+1))).Per) (by omega) (by omega),Zhb (by simp;omega) (by omega),ZZ,ZaW (by omega)]
  have e:[ZaQ.mk (at0 r (j+1)) (Zbq t u (ZaU t u s r j)-2*u.Slack) (Zbq t u (ZaU t u s r j)+2*u.Slack) ((Zbq t u (ZaU t u s r j)+2*u.Slack+u.Grid-1)/u.Grid*u.Grid) (s.Size*(plk t (at0 r (j+1))).Per)]=[j+1].map (ZaU t u s r):=rfl
  rw [e,← ZL,← List.range_succ]
 have key:∀ (m N' k:Nat),r.length-k=m->1<=k->k<=r.length->m<N'->ZaY (λx:Int×(List ZaQ)=>Zdk N t u s r x.1 x.2) N' ((k:Int),(List.range k).map (ZaU t u s r))=some ((List.range r.length).map (ZaU t u s r)):=by
  intro m
  induction m with
  | zero =>
   intro N' k e0 e1 e2 e3
   obtain rfl:k=r.length:=by omega
   cases N' with
   | zero=>omega
   | succ N' =>
    rw [Zbw (r:=(List.range r.length).map (ZaU t u s r))]
    show Zdk N t u s r ((r.length:Nat):Int) _=_
    unfold Zdk
    rw [Z8 (by simp)]
  | succ m ih =>
   intro N' k e0 e1 e2 e3
   cases N' with
   | zero=>omega
   | succ N' =>
    rw [ZcC (y:=(((k+1:Nat):Int),(List.range (k+1)).map (ZaU t u s r))) (hstep k e1 (by omega))]
    exact ih N' (k+1) (by omega) (by omega) (by omega) (by omega)
 have:=key (r.length-1) N 1 rfl (Nat.le_refl _) h1 (by omega)
 have e:(1,[ZaQ.mk (at0 r 0) 0 0 0 (s.Size*(plk t (at0 r 0)).Per)])=(((1:Nat):Int),(List.range 1).map (ZaU t u s r)):=rfl
 rw [e,this]
 rfl
end
end Go.Sh
namespace Go.Sh
open Go Go.Eng
theorem ZoW {a G q:Int}(hG:0<G)(h1:q*G<=a)(h2:a<q*G+G):a/G=q:=by
 have e1:=Int.mul_ediv_add_emod a G
 have e2:=Int.emod_nonneg a (show G≠0 by omega)
 have e3:=Int.emod_lt_of_pos a hG
 rw [Int.mul_comm] at e1
 generalize a/G=p at *
 rcases Int.lt_trichotomy p q with h|h|h
 ·have:(p+1)*G<=q*G:=Int.mul_le_mul_of_nonneg_right (by omega) (by omega)
  rw [Int.add_mul] at this
  omega
 ·exact h
 have:(q+1)*G<=p*G:=Int.mul_le_mul_of_nonneg_right (by omega) (by omega)
 rw [Int.add_mul] at this
 omega
theorem Zk6 {a G:Int}(hG:0<G):a/G*G<=a/\a<a/G*G+G:=by
 have e1:=Int.mul_ediv_add_emod a G
 have e2:=Int.emod_nonneg a (show G≠0 by omega)
 have e3:=Int.emod_lt_of_pos a hG
 rw [Int.mul_comm] at e1
 omega
theorem ZeN {a G B:Int}(hG:1<=G)(h1 : -B<=a)(h2:a<=B)(hB:0<=B) : -B<=a/G/\a/G<=B:=by
 constructor
 ·rw [Int.le_ediv_iff_mul_le (by omega)]
  have:B*1<=B*G:=Int.mul_le_mul_of_nonneg_left hG hB
  rw [Int.neg_mul]
  omega
 have:a/G<B+1:=by
  rw [Int.ediv_lt_iff_lt_mul (by omega)]
  have:(B+1)*1<=(B+1)*G:=Int.mul_le_mul_of_nonneg_left hG (by omega)
  omega
 omega
theorem ZhX (N:Nat){a b:Int}(hb:1<=b)(h1 : -100000000<=a)(h2:a<=100000000):Zd5 N a b=some (a/b):=by
 unfold Zd5
 have e:=Int.mul_tdiv_add_tmod a b
 have l1:=Int.lt_tmod_of_pos a (show 0<b by omega)
 have l2:=Int.tmod_lt_of_pos a (show 0<b by omega)
 rw [Int.mul_comm] at e
 have hq : -100000000<=a.tdiv b/\a.tdiv b<=100000000:=by
  generalize a.tdiv b=q at *
  rcases Int.lt_or_le q 0 with c|c
  ·have:q*b<=q*1:=Int.mul_le_mul_of_nonpos_left (by omega) (by omega)
   by_cases d:q ≤ -1
   ·have h3:(q+1)*b<=(q+1)*1:=Int.mul_le_mul_of_nonpos_left (by omega) (by omega)
    rw [Int.add_mul] at h3
    omega
   omega
  have:q*1<=q*b:=Int.mul_le_mul_of_nonneg_left (by omega) c
  by_cases d:1<=q
  ·have h3:(q-1)*1<=(q-1)*b:=Int.mul_le_mul_of_nonneg_left (by omega) (by omega)
   simp only [Int.sub_mul,Int.one_mul,Int.mul_one] at h3
   omega
  omega
 rw [Zi2 (by omega),Zj4 (by omega)]
 have ew:IntKind.i64.wrap (a.tdiv b)=a.tdiv b:=ZaO (by omega) (by omega)
 rw [ew]
 simp only [ZZ]
 by_cases c:a.tmod b<0
 ·rw [Z9 (by simpa using c),ZZ,ZaO (by omega) (by omega)]
  congr 1
  symm
  refine ZoW (by omega) ?_ ?_
  ·rw [Int.sub_mul];omega
  rw [Int.sub_mul];omega
 rw [Z8 (by simpa using c),ZZ]
 congr 1
 symm
 refine ZoW (by omega) ?_ ?_<;>omega
theorem Zjs (N:Nat){a b:Int}(hb:1<=b)(hb2:b<=1000000)(h1 : -100000000<=a)(h2:a<=100000000):Zfv N a b=some (a/b):=by
 unfold Zfv
 have m0:=Int.emod_nonneg a (show b≠0 by omega)
 have m1:=Int.emod_lt_of_pos a (show 0<b by omega)
 have hs:=ZeN (a:=a) (B:=100000000) hb h1 h2 (by omega)
 have e:a-a%b=b*(a/b):=by have:=Int.mul_ediv_add_emod a b;omega
 have ed:(b*(a/b)).tdiv b=a/b:=Int.mul_tdiv_cancel_left _ (by omega)
 have ew:IntKind.i64.wrap (a/b)=a/b:=ZaO (by omega) (by omega)
 rw [Zlh N (by omega) hb2,ZZ,ZaO (by omega) (by omega),e,Zi2 (by omega),ed,ew,ZZ]
theorem Ztj {x G:Int}(hG:1<=G) : -((-x)/G)=(x+G-1)/G:=by
 symm
 obtain ⟨a,b⟩:=Zk6 (a := -x) (G:=G) (by omega)
 refine ZoW (by omega) ?_ ?_
 ·rw [Int.neg_mul];omega
 rw [Int.neg_mul];omega
section
variable {N:Nat} {t:Zag} {u:ZaE} {s:Zah}
def useH (u:ZaE)(n P:Int)(h:ZaQ):ZaB:=⟨n,h.Port,(h.Early/u.Grid)%P,(h.Open+h.Long+u.Grid-1)/u.Grid-h.Early/u.Grid⟩
def ZoS (t:Zag)(u:ZaE)(s:Zah)(r:List Int):List ZaQ:=(List.range r.length).map (ZaU t u s r)
def Zdz (t:Zag)(u:ZaE)(n:Int)(s:Zah)(r:List Int):List ZaB:=(ZoS t u s r).map (useH u n s.Period)
def Zk0 (t:Zag)(u:ZaE)(s:Zah)(r:List Int):Bool:=decide (Zbq t u (ZaU t u s r (r.length-1))+2*u.Slack>s.Deadline)
structure HN (u:ZaE) (h:ZaQ):Prop where
 e1 : -2000<=h.Early
 e2:h.Early<=20000000
 o1:0<=h.Open
 o2:h.Open<=20000000
 l1:84<=h.Long
 l2:h.Long<=1542000
 eo:h.Early<=h.Open
theorem Zqq (g:Good t)(hu:ZiZ u)(hs:ZjD s){r:List Int}(hv:ZbK t r=true){h:ZaQ}(hh:h∈ZoS t u s r):HN u h/\Zc9 t h.Port=true:=by
 obtain ⟨h1,h8,hp⟩:=ZcR hv
 obtain ⟨k,hk,rfl⟩:=List.mem_map.1 hh
 rw [ZO] at hk
 have hb:=Zgo g hu hs hp k hk
 obtain ⟨b1,b2,b3,b4⟩:=Zgv g hu hs hp h8 hk
 have s1:=hu.s1;have s2:=hu.s2
 refine ⟨?_,hb.port⟩
 cases k with
 | zero=>exact ⟨by show -2000<=(0:Int);omega,by show (0:Int)<=20000000;omega,b1,b2,hb.long1,hb.long2,by show (0:Int)<=0;omega⟩
 | succ k =>
  obtain ⟨n1,n2,n3,n4,n5,n6⟩:=ZqY g hu hs hp hk
  obtain ⟨c1,c2,c3,c4⟩:=Zgv g hu hs hp h8 (show k<r.length by omega)
  exact ⟨by omega,by omega,b1,b2,hb.long1,hb.long2,by omega⟩
theorem Zt2 (hu:ZiZ u){h:ZaQ}(hn:HN u h){n P:Int}(hP:1<=P)(hP2:P<=1000):∃ r2,Zd5 N h.Early u.Grid=some (h.Early/u.Grid)/\Zd5 N (w64 ((w64 ((w64 (h.Open+h.Long))+u.Grid))-1)) u.Grid=some ((h.Open+h.Long+u.Grid-1)/u.Grid) ∧
  Zd5 N (h.Early/u.Grid) P=some r2/\ZaB.mk n h.Port (w64 (h.Early/u.Grid-(w64 (r2*P)))) (w64 ((h.Open+h.Long+u.Grid-1)/u.Grid-h.Early/u.Grid))=useH u n P h:=by
 obtain ⟨e1,e2,o1,o2,l1,l2,_⟩:=hn
 have g1:=hu.g1;have g2:=hu.g2
 have d1:=ZeN (a:=h.Early) (B:=20000000) g1 (by omega) e2 (by omega)
 have d2:=ZeN (a:=h.Open+h.Long+u.Grid-1) (B:=22000000) g1 (by omega) (by omega) (by omega)
 have m0:=Int.emod_nonneg (h.Early/u.Grid) (show P≠0 by omega)
 have m1:=Int.emod_lt_of_pos (h.Early/u.Grid) (show 0<P by omega)
 have em:h.Early/u.Grid/P*P=h.Early/u.Grid-h.Early/u.Grid%P:=by have:=Int.mul_ediv_add_emod (h.Early/u.Grid) P;rw [Int.mul_comm] at this;omega
 refine ⟨h.Early/u.Grid/P,ZhX N g1 (by omega) (by omega),?_,ZhX N hP (by omega) (by omega),?_⟩
 ·rw [ZaO (x:=h.Open+h.Long) (by omega) (by omega),ZaO (x:=h.Open+h.Long+u.Grid) (by omega) (by omega),ZaO (x:=h.Open+h.Long+u.Grid-1) (by omega) (by omega)]
  exact ZhX N g1 (by omega) (by omega)
 unfold useH
 rw [em,ZaO (x:=h.Early/u.Grid-h.Early/u.Grid%P) (by omega) (by omega),ZaO (x:=h.Early/u.Grid-(h.Early/u.Grid-h.Early/u.Grid%P)) (by omega) (by omega),ZaO (x:=(h.Open+h.Long+u.Grid-1)/u.Grid-h.Early/u.Grid) (by omega) (by omega)]
 congr 1
 omega
theorem Zpr (hu:ZiZ u){h:ZaQ}(hn:HN u h){n P:Int}(hP:1<=P)(hP2:P<=1000):Ziz N u n P h=some (useH u n P h):=by
 obtain ⟨e1,e2,o1,o2,l1,l2,_⟩:=hn
 have g1:=hu.g1;have g2:=hu.g2
 have d1:=ZeN (a:=h.Early) (B:=20000000) g1 (by omega) e2 (by omega)
 have d2:=ZeN (a:=h.Open+h.Long+u.Grid-1) (B:=22000000) g1 (by omega) (by omega) (by omega)
 have c:=Ztj (x:=h.Open+h.Long) g1
 unfold Ziz useH
 rw [Zjs N g1 (by omega) (by omega) (by omega),ZZ,ZaO (x:=h.Open+h.Long) (by omega) (by omega),show (0:Int)-(h.Open+h.Long) = -(h.Open+h.Long) by omega,ZaO (x := -(h.Open+h.Long)) (by omega) (by omega),Zjs N g1 (by omega) (by omega) (by omega),ZZ,Zlh N (by omega) (by omega),ZZ]
 rw [show (0:Int) - -(h.Open+h.Long)/u.Grid=(h.Open+h.Long+u.Grid-1)/u.Grid by omega,ZaO (x:=(h.Open+h.Long+u.Grid-1)/u.Grid) (by omega) (by omega),ZaO (by omega) (by omega)]
structure Ac where
 late:Bool
 P:List Int
 U:List ZaB
def ZjH (t:Zag)(u:ZaE)(a:Ac)(s:Zah):Ac :=
 if s.Class=7 then ⟨a.late||s.Routes.any (Zk0 t u s),a.P++[s.Period],a.U++s.Routes.flatMap (Zdz t u (a.P.length:Int) s)⟩ else a
def accA (t:Zag)(u:ZaE)(l:List Zah):Ac:=l.foldl (ZjH t u) ⟨false,[],[]⟩
structure SS (t:Zag) (s:Zah):Prop where
 str:ZbI t s=true
 cls:s.Class=7
 per1:1<=s.Period
 per2:s.Period<=240
 dl:s.Deadline<=1099511627776
 r1:1<=s.Routes.length
 r2:s.Routes.length<=2
 rt:∀ r∈s.Routes,ZbK t r=true
theorem SS.of (h:ZbI t s=true)(hc:s.Class=7):SS t s:=by
 obtain ⟨⟨r1,r2⟩,hr⟩:=Zjj h
 have h':=h
 simp only [ZbI,Zqr,inB,Zn8,Ze,Z6] at h'
 obtain ⟨h1,h2,_⟩:=h'
 rw [Z9 (by simp [hc])] at h2
 simp only [inB,Ze,Z6] at h2
 refine ⟨h,hc,h2.1.1,h2.1.2,h1.2.2.2.2.2.2,r1,r2,λr hm=>?_⟩
 obtain ⟨k,hk,rfl⟩:=List.getElem_of_mem hm
 have:=(Zhw hr hk).1
 rwa [Zd1 hk] at this
theorem Zl9 (g:Good t){r:List Int}(hv:ZbK t r=true)(n:Int):(Zdz t u n s r).length<=8:=by
 have:=(ZcR hv).2.1
 simp [Zdz,ZoS];omega
theorem ZdN {α:Type}{l:List α}{k:Nat}(hk:k<l.length):l.take (k+1)=l.take k++[l[k]]:=by
 rw [ZW hk]
theorem Zl0 {α β:Type}(f:α->List β){B:Nat}:∀ (l:List α),(∀ x∈l,(f x).length<=B)->(l.flatMap f).length<=B*l.length
 | [],_=>by simp
 | x::l,h=>by
  have h1:=Zl0 f l λy hy=>h y (by simp [hy])
  have h2:=h x (by simp)
  simp only [List.flatMap_cons,ZI,ZJ]
  rw [Nat.mul_add]
  omega
theorem ZnT (k:Nat)(hk:k<s.Routes.length):Ze0 s (k:Int)=s.Routes[k]:=by
 unfold Ze0
 rw [Zn,Zd1 hk]
theorem ZkS (hT:Ze8 t=true)(hU:ZeZ u=true)(h:SS t s){b:Bool}{P:List Int}{U:List ZaB}(hP:P.length<=100)(hUl:U.length<=900)(hN:2000<=N) :
  ZeI N ⟨⟨P,U⟩,b⟩ t u s=some (0,⟨⟨(ZjH t u ⟨b,P,U⟩ s).P,(ZjH t u ⟨b,P,U⟩ s).U⟩,(ZjH t u ⟨b,P,U⟩ s).late⟩):=by
 have g:=ZbQ.1 hT
 have hu:=ZdC hU
 have hs:=ZeY h.str
 have p1:=h.per1;have p2:=h.per2;have r1:=h.r1;have r2:=h.r2
 unfold ZeI ZjH
 rw [Z9 h.cls]
 simp only
 rw [ZiX (by omega) (by omega),ZZ]
 obtain ⟨o,ho,eo⟩:=ZcS (body:=λx:Int×Bool×(List ZaB)=>Zc2 N ⟨⟨P,U⟩,b⟩ t u s (P++[s.Period]) x.1 x.2.1 x.2.2)
  (λx=>∃ k:Nat,x.1=k/\k<=s.Routes.length/\x.2.1=(b||(s.Routes.take k).any (Zk0 t u s))/\x.2.2=U++(s.Routes.take k).flatMap (Zdz t u (P.length:Int) s)) (λx=>(s.Routes.length-x.1).toNat)
  (λr=>r=.inl (b||s.Routes.any (Zk0 t u s),U++s.Routes.flatMap (Zdz t u (P.length:Int) s))) (λx hx=>by
   obtain ⟨i,b',U'⟩:=x
   obtain ⟨k,k1,k2,k3,k4⟩:=hx
   simp only at k1 k3 k4
   subst k1 k3 k4
   simp only [Zc2]
   by_cases c:k<s.Routes.length
   ·left
    have hv:=h.rt _ (List.getElem_mem c)
    obtain ⟨v1,v8,vp⟩:=ZcR hv
    refine ⟨(((k+1:Nat):Int),b||(s.Routes.take (k+1)).any (Zk0 t u s),U++(s.Routes.take (k+1)).flatMap (Zdz t u (P.length:Int) s)),?_,⟨k+1,rfl,by omega,rfl,rfl⟩,by simp;omega⟩
    rw [Z9 (by simpa using c),ZlE hT hU h.str h.cls (by omega) (by omega) (by omega),ZZ,ZnT k c,ZlD hT hU h.str h.cls (by omega) (by omega) (by omega),ZnT k c]
    simp only [Z5,Zg,Z7,ZZ]
    have hfl:((s.Routes.take k).flatMap (Zdz t u (P.length:Int) s)).length<=8*(s.Routes.take k).length:=Zl0 _ _ λr hr=>Zl9 g (h.rt r (List.mem_of_mem_take hr)) _
    have htl:(s.Routes.take k).length<=2:=by simp;omega
    obtain ⟨q,hq,eq⟩:=ZcS (body:=λx:Int×(List ZaB)=>Zc1 N ⟨⟨P,U⟩,b⟩ u s ((List.range s.Routes[k].length).map (ZaU t u s s.Routes[k]),0) x.1 x.2)
     (λx=>∃ j:Nat,x.1=j/\j<=s.Routes[k].length/\x.2=U++(s.Routes.take k).flatMap (Zdz t u (P.length:Int) s)++(Zdz t u (P.length:Int) s s.Routes[k]).take j) (λx=>(s.Routes[k].length-x.1).toNat)
     (λr=>r=U++(s.Routes.take k).flatMap (Zdz t u (P.length:Int) s)++Zdz t u (P.length:Int) s s.Routes[k]) (λx hx=>by
      obtain ⟨i,U'⟩:=x
      obtain ⟨j,j1,j2,j3⟩:=hx
      simp only at j1 j3
      subst j1 j3
      simp only [Zc1]
      have hlen:(Zdz t u (P.length:Int) s s.Routes[k]).length=s.Routes[k].length:=by simp [Zdz,ZoS]
      by_cases d:j<s.Routes[k].length
      ·left
       refine ⟨(((j+1:Nat):Int),U++(s.Routes.take k).flatMap (Zdz t u (P.length:Int) s)++(Zdz t u (P.length:Int) s s.Routes[k]).take (j+1)),?_,⟨j+1,rfl,by omega,rfl⟩,by simp;omega⟩
       have hmem:ZaU t u s s.Routes[k] j∈ZoS t u s s.Routes[k]:=List.mem_map.2 ⟨j,List.mem_range.2 d,rfl⟩
       obtain ⟨x2,f1,f2,f3,f4⟩:=Zt2 (N:=N) hu (Zqq g hu hs hv hmem).1 (n:=(P.length:Int)) p1 (by omega)
       have eh:(Zdz t u (P.length:Int) s s.Routes[k])[j]'(by omega)=useH u (P.length:Int) s.Period (ZaU t u s s.Routes[k] j):=by simp [Zdz,ZoS]
       rw [Z9 (by simpa using d),ZlY _ d,ZZ,f1,ZZ,f2,ZZ,f3,ZZ,f4,ZiX (by simp only [ZI,List.length_take];omega) (by omega),ZZ,ZaW (by omega),ZdN (by omega),eh]
       simp only [Zq]
      right
      obtain rfl:j=s.Routes[k].length:=by omega
      refine ⟨U++(s.Routes.take k).flatMap (Zdz t u (P.length:Int) s)++Zdz t u (P.length:Int) s s.Routes[k],?_,rfl⟩
      rw [Z8 (by simp),ZV (Nat.le_of_eq hlen)]) N (0,U++(s.Routes.take k).flatMap (Zdz t u (P.length:Int) s)) ⟨0,rfl,by omega,by simp⟩ (by simp;omega)
    rw [hq,ZZ,eq]
    have hj:s.Routes[k].length-1<s.Routes[k].length:=by omega
    obtain ⟨b1,b2,b3,b4⟩:=Zgv g hu hs vp v8 hj
    have s1:=hu.s1;have s2:=hu.s2
    rw [ZaO (x:=2*u.Slack) (by omega) (by omega),ZaO (x:=Zbq t u (ZaU t u s s.Routes[k] (s.Routes[k].length-1))+2*u.Slack) (by omega) (by omega),ZaW (by omega),ZdN c,List.any_append,List.flatMap_append]
    have el:decide (Zbq t u (ZaU t u s s.Routes[k] (s.Routes[k].length-1))+2*u.Slack>s.Deadline)=Zk0 t u s s.Routes[k]:=rfl
    rw [el]
    simp only [List.any_cons,List.any_nil,Bool.or_false,List.flatMap_cons,List.flatMap_nil,List.append_nil,Zq]
    cases b<;>cases (s.Routes.take k).any (Zk0 t u s)<;>simp
   right
   obtain rfl:k=s.Routes.length:=by omega
   exact ⟨_,by rw [Z8 (by simp)],by simp⟩) N (0,b,U) ⟨0,rfl,by omega,by simp,by simp⟩ (by simp;omega)
 rw [ho,ZZ,eo]
end
end Go.Sh

namespace Go.Sh
open Go Go.Eng
section
variable {N:Nat} {t:Zag} {u:ZaE} {s:Zah}
structure AcOK (t:Zag) (u:ZaE) (n:Nat) (a:Ac):Prop where
 pl:a.P.length<=n
 ul:a.U.length<=16*a.P.length
 per:a.P.all perB=true
 st:∀ x∈a.U,0<=x.Stream/\x.Stream<(a.P.length:Int)
 port:∀ x∈a.U,Zc9 t x.Port=true
 fr:∀ x∈a.U,0<=x.From/\x.From<perU a.P x
 lg:∀ x∈a.U,1<=x.Long/\x.Long<=100000000
theorem Zs4 {P Q:List Int}{x:ZaB}(h0:0<=x.Stream)(h1:x.Stream<(P.length:Int)):perU (P++Q) x=perU P x:=by
 unfold perU
 rw [Zw,Zw,Zx (by omega)]
theorem Zs3 {P:List Int}{q:Int}{x:ZaB}(h:x.Stream=(P.length:Int)):perU (P++[q]) x=q:=by
 unfold perU
 rw [h,Zn,Zw,Zy (Nat.le_refl _)]
 simp
theorem ZtE (g:Good t)(hu:ZiZ u)(h:SS t s){r:List Int}(hr:r∈s.Routes){n:Int}{x:ZaB}(hx:x∈Zdz t u n s r) :
  x.Stream=n/\Zc9 t x.Port=true/\0<=x.From/\x.From<s.Period/\1<=x.Long/\x.Long<=100000000:=by
 obtain ⟨h',hh,rfl⟩:=List.mem_map.1 hx
 obtain ⟨⟨e1,e2,o1,o2,l1,l2,eo⟩,hp⟩:=Zqq g hu (ZeY h.str) (h.rt r hr) hh
 have p1:=h.per1
 have g1:=hu.g1;have g2:=hu.g2
 have d1:=ZeN (a:=h'.Early) (B:=20000000) g1 (by omega) e2 (by omega)
 have d2:=ZeN (a:=h'.Open+h'.Long+u.Grid-1) (B:=22000000) g1 (by omega) (by omega) (by omega)
 refine ⟨rfl,hp,Int.emod_nonneg _ (by omega),Int.emod_lt_of_pos _ (by omega),?_,?_⟩
 ·show 1<=(h'.Open+h'.Long+u.Grid-1)/u.Grid-h'.Early/u.Grid
  obtain ⟨a1,a2⟩:=Zk6 (a:=h'.Open+h'.Long+u.Grid-1) (G:=u.Grid) (by omega)
  obtain ⟨b1,b2⟩:=Zk6 (a:=h'.Early) (G:=u.Grid) (by omega)
  generalize (h'.Open+h'.Long+u.Grid-1)/u.Grid=p at *
  generalize h'.Early/u.Grid=q at *
  rcases Int.lt_or_le q p with c|c
  ·omega
  have:p*u.Grid<=q*u.Grid:=Int.mul_le_mul_of_nonneg_right c (by omega)
  omega
 show (h'.Open+h'.Long+u.Grid-1)/u.Grid-h'.Early/u.Grid<=100000000
 omega
theorem AcOK.step (g:Good t)(hu:ZiZ u){n:Nat}{a:Ac}(h:AcOK t u n a)(hs:ZbI t s=true):AcOK t u (n+1) (ZjH t u a s):=by
 obtain ⟨h1,h2,h3,h4,h5,h6,h7⟩:=h
 unfold ZjH
 by_cases c:s.Class=7
 ·rw [Z9 c]
  have q:=SS.of hs c
  have p1:=q.per1;have p2:=q.per2;have r2:=q.r2
  have hfl:(s.Routes.flatMap (Zdz t u (a.P.length:Int) s)).length<=8*s.Routes.length:=Zl0 _ _ λr hr=>Zl9 g (q.rt r hr) _
  have new:∀ x∈s.Routes.flatMap (Zdz t u (a.P.length:Int) s),x.Stream=(a.P.length:Int)/\Zc9 t x.Port=true/\0<=x.From/\x.From<s.Period/\1<=x.Long/\x.Long<=100000000:=λx hx=>by
   obtain ⟨r,hr,hx⟩:=List.mem_flatMap.1 hx
   exact ZtE g hu q hr hx
  refine ⟨by simp;omega,by simp only [ZI,ZJ,List.length_nil];omega,?_,λx hx=>?_,λx hx=>?_,λx hx=>?_,λx hx=>?_⟩
  ·simp only [List.all_append,h3,Zk,List.all_cons,List.all_nil,Bool.and_true]
   exact Zkf.2 (by omega)
  ·simp only [ZI,ZJ,List.length_nil]
   rcases List.mem_append.1 hx with hx|hx
   ·have:=h4 x hx;omega
   have:=(new x hx).1;omega
  ·rcases List.mem_append.1 hx with hx|hx
   ·exact h5 x hx
   exact (new x hx).2.1
  ·rcases List.mem_append.1 hx with hx|hx
   ·have:=h4 x hx
    simp only
    rw [Zs4 this.1 this.2]
    exact h6 x hx
   have:=new x hx
   simp only
   rw [Zs3 this.1]
   exact ⟨this.2.2.1,this.2.2.2.1⟩
  rcases List.mem_append.1 hx with hx|hx
  ·exact h7 x hx
  exact (new x hx).2.2.2.2
 rw [Z8 c]
 exact ⟨by omega,h2,h3,h4,h5,h6,h7⟩
theorem Ztx (g:Good t)(hu:ZiZ u):∀ (l:List Zah) (n:Nat) (a:Ac),AcOK t u n a->(∀ x∈l,ZbI t x=true)->AcOK t u (n+l.length) (l.foldl (ZjH t u) a)
 | [],n,a,h,_=>h
 | x::l,n,a,h,hl=>by
  have:=Ztx g hu l (n+1) _ (h.step g hu (hl x (by simp))) λy hy=>hl y (by simp [hy])
  simp only [ZJ,Zv]
  rwa [show n+(l.length+1)=n+1+l.length by omega]
theorem acc0:AcOK t u 0 ⟨false,[],[]⟩:=⟨by simp,by simp,rfl,by simp,by simp,by simp,by simp⟩
theorem Znn (g:Good t)(hu:ZiZ u){l:List Zah}(hl:∀ x∈l,ZbI t x=true):AcOK t u l.length (accA t u l):=by
 have:=Ztx (t:=t) (u:=u) g hu l 0 _ acc0 hl
 rwa [ZY] at this
theorem Zp5 (l:List Zah)(k:Nat)(hk:k<l.length):accA t u (l.take (k+1))=ZjH t u (accA t u (l.take k)) l[k]:=by
 unfold accA
 rw [ZdN hk,List.foldl_append]
 rfl
theorem Zpx (hT:Ze8 t=true)(hU:ZeZ u=true){l:List Zah}(hl:∀ x∈l,ZbI t x=true)(h12:l.length<=12)(hN:2000<=N) :
  ZaY (λx:Int×Bool×(List Int)×(List ZaB)=>ZfF N t u l x.1 x.2.1 x.2.2.1 x.2.2.2) N (0,false,[],[])=some (.inl ((accA t u l).late,(accA t u l).P,(accA t u l).U)):=by
 have g:=ZbQ.1 hT
 have hu:=ZdC hU
 obtain ⟨o,ho,eo⟩:=ZcS (body:=λx:Int×Bool×(List Int)×(List ZaB)=>ZfF N t u l x.1 x.2.1 x.2.2.1 x.2.2.2)
  (λx=>∃ k:Nat,x.1=k/\k<=l.length/\x.2=((accA t u (l.take k)).late,(accA t u (l.take k)).P,(accA t u (l.take k)).U)) (λx=>(l.length-x.1).toNat)
  (λr=>r=.inl ((accA t u l).late,(accA t u l).P,(accA t u l).U)) (λx hx=>by
   obtain ⟨i,y⟩:=x
   obtain ⟨k,k1,k2,k3⟩:=hx
   simp only at k1 k3
   subst k1 k3
   simp only [ZfF]
   by_cases c:k<l.length
   ·left
    have hs:=hl _ (List.getElem_mem c)
    have ha:=Znn (t:=t) (u:=u) g hu (l:=l.take k) λx hx=>hl x (List.mem_of_mem_take hx)
    have a1:=ha.pl;have a2:=ha.ul
    have htl:(l.take k).length<=12:=by simp;omega
    refine ⟨(((k+1:Nat):Int),(accA t u (l.take (k+1))).late,(accA t u (l.take (k+1))).P,(accA t u (l.take (k+1))).U),?_,⟨k+1,rfl,by omega,rfl⟩,by simp;omega⟩
    rw [Z9 (by simpa using c),ZcT c,ZZ,ZaW (by omega),Zp5 l k c]
    by_cases hc:l[k].Class=7
    ·rw [Z8 (by simpa using hc),ZkS hT hU (SS.of hs hc) (by omega) (by omega) hN,ZZ]
     rfl
    rw [Z9 (by simpa using hc)]
    unfold ZjH
    rw [Z8 hc]
   right
   obtain rfl:k=l.length:=by omega
   exact ⟨.inl ((accA t u l).late,(accA t u l).P,(accA t u l).U),by rw [Z8 (by simp),ZU],rfl⟩) N (0,false,[],[]) ⟨0,rfl,by omega,by simp [accA]⟩ (by simp;omega)
 rw [ho,eo]
def sumC (P:List Int)(C:Int):List ZaB->Int
 | []=>0
 | x::l=>C.tdiv (perU P x)+sumC P C l
theorem ZqD (P:List Int)(C:Int)(a b:List ZaB):sumC P C (a++b)=sumC P C a+sumC P C b:=by
 induction a with
 | nil=>simp [sumC]
 | cons x a ih=>simp only [Zs,sumC,ih];omega
def Zij (P:List Int)(C:Int)(U:List ZaB)(q:Int):Int:=sumC P C (U.filter λx=>x.Port==q)
def Zqt (P:List Int)(C:Int)(U:List ZaB):Bool:=U.any λx=>decide (Zij P C U x.Port>63)
def Zjf (P:List Int)(U:List ZaB):Bool:=U.any λx=>decide (x.Long>perU P x)
def errC (a:Ac):Int:=if lcmL a.P<=960 then (if Zqt a.P (lcmL a.P) a.U=true then 7 else if Zjf a.P a.U=true then 341 else if a.late=true then 342 else 0) else 6
theorem Zkw {P:List Int}{C:Int}(h0:0<=C)(h1:C<=960):∀ {U:List ZaB},(∀ x∈U,1<=perU P x)->0<=sumC P C U/\sumC P C U<=960*U.length
 | [],_=>by simp [sumC]
 | x::U,h=>by
  have ih:=Zkw h0 h1 (U:=U) λy hy=>h y (by simp [hy])
  have hx:=h x (by simp)
  simp only [sumC,ZJ]
  rw [Zl h0]
  have d:=ZeN (a:=C) (B:=C) hx (by omega) (by omega) h0
  have e:0<=C/perU P x:=Int.ediv_nonneg h0 (by omega)
  omega
structure Grp (U:List ZaB) (m:List (Int×List ZaB)):Prop where
 nd:(m.map (·.1)).Nodup
 val:∀ p∈m,p.2=U.filter (λx=>x.Port==p.1)/\p.2≠[]
 key:∀ x∈U,∃ p∈m,p.1=x.Port
theorem Zsk {κ υ:Type}[DecidableEq κ]{m:List (κ×υ)}{z:υ}:∀ {p:κ×υ},(m.map (·.1)).Nodup->p∈m->Zhk m p.1 z=p.2:=by
 intro p hn hp
 induction m with
 | nil=>simp at hp
 | cons q m ih =>
  rw [ZkV]
  simp only [ZM,List.nodup_cons] at hn
  rcases List.mem_cons.1 hp with rfl|hp
  ·rw [Z9 rfl]
  rw [Z8,ih hn.2 hp]
  intro e
  exact hn.1 (List.mem_map.2 ⟨p,hp,e.symm⟩)
theorem Zrx {κ υ:Type}[DecidableEq κ]{m:List (κ×υ)}{x:κ}{z:υ}(h:∀ p∈m,p.1≠x):Zhk m x z=z:=by
 induction m with
 | nil=>rfl
 | cons q m ih =>
  rw [ZkV,Z8 (h q (by simp)),ih λp hp=>h p (by simp [hp])]
theorem Zru {κ υ:Type}[DecidableEq κ](m:List (κ×υ))(x:κ)(v:υ):(Zed m x v).map (·.1)=if x∈m.map (·.1) then m.map (·.1) else m.map (·.1)++[x]:=by
 induction m with
 | nil=>simp [Zed]
 | cons q m ih =>
  unfold Zed
  by_cases e:q.1=x
  ·rw [Z9 e]
   simp [e]
  rw [Z8 e,ZM,ih]
  by_cases c:x∈m.map (·.1)
  ·rw [Z9 c,Z9 (by simp [c])];rfl
  have hx:¬ x∈(q::m).map (·.1):=by
   rw [ZM,List.mem_cons]
   rintro (r|r)
   ·exact e r.symm
   exact c r
  rw [Z8 c,Z8 hx];rfl
theorem Zkm {κ υ:Type}[DecidableEq κ]{m:List (κ×υ)}{x:κ}{v:υ}(hn:(m.map (·.1)).Nodup){p:κ×υ}:p∈Zed m x v↔p=(x,v)∨(p∈m/\p.1≠x):=by
 induction m with
 | nil=>simp [Zed]
 | cons q m ih =>
  simp only [ZM,List.nodup_cons] at hn
  unfold Zed
  by_cases e:q.1=x
  ·rw [Z9 e,List.mem_cons,List.mem_cons]
   constructor
   ·rintro (r|r)
    ·exact .inl r
    refine .inr ⟨.inr r,λe2=>hn.1 (List.mem_map.2 ⟨p,r,by rw [e2,e]⟩)⟩
   rintro (r|⟨r|r,e2⟩)
   ·exact .inl r
   ·subst r;exact absurd e e2
   exact .inr r
  rw [Z8 e,List.mem_cons,ih hn.2,List.mem_cons]
  constructor
  ·rintro (r|r|⟨r,e2⟩)
   ·subst r;exact .inr ⟨.inl rfl,e⟩
   ·exact .inl r
   exact .inr ⟨.inr r,e2⟩
  rintro (r|⟨r|r,e2⟩)
  ·exact .inr (.inl r)
  ·exact .inl r
  exact .inr (.inr ⟨r,e2⟩)
theorem Grp.get {U:List ZaB}{m:List (Int×List ZaB)}(h:Grp U m)(q:Int):Zhk m q []=U.filter (λx=>x.Port==q):=by
 by_cases c:∃ p∈m,p.1=q
 ·obtain ⟨p,hp,rfl⟩:=c
  rw [Zsk h.nd hp,(h.val p hp).1]
 rw [Zrx λp hp e=>c ⟨p,hp,e⟩]
 symm
 rw [List.filter_eq_nil_iff]
 intro x hx hq
 obtain ⟨p,hp,e⟩:=h.key x hx
 exact c ⟨p,hp,by rw [e];simpa using hq⟩
theorem Grp.add {U:List ZaB}{m:List (Int×List ZaB)}(h:Grp U m)(x:ZaB):Grp (U++[x]) (Zed m x.Port (Zhk m x.Port []++[x])):=by
 refine ⟨?_,λp hp=>?_,λy hy=>?_⟩
 ·rw [Zru]
  by_cases c:x.Port∈m.map (·.1)
  ·rw [Z9 c];exact h.nd
  rw [Z8 c,List.nodup_append]
  refine ⟨h.nd,by simp,λa ha b hb e=>?_⟩
  simp only [ZP] at hb
  subst hb e
  exact c ha
 ·rw [List.filter_append]
  rcases (Zkm h.nd).1 hp with rfl|⟨hp,hne⟩
  ·simp only
   rw [h.get]
   refine ⟨by simp,by simp⟩
  refine ⟨?_,(h.val p hp).2⟩
  rw [← (h.val p hp).1]
  simp [Ne.symm hne]
 rcases List.mem_append.1 hy with hy|hy
 ·obtain ⟨p,hp,e⟩:=h.key y hy
  by_cases c:p.1=x.Port
  ·exact ⟨_,(Zkm h.nd).2 (.inl rfl),by rw [← e,c]⟩
  exact ⟨p,(Zkm h.nd).2 (.inr ⟨hp,c⟩),e⟩
 simp only [ZP] at hy
 subst hy
 exact ⟨_,(Zkm h.nd).2 (.inl rfl),rfl⟩
theorem Ztt {f:List ZaB->Option Bool}{g:List ZaB->Bool}:∀ {m:List (Int×List ZaB)},(∀ p∈m,f p.2=some (g p.2))->rgF f m=some (m.any λp=>g p.2)
 | [],_=>rfl
 | p::m,h=>by
  unfold rgF
  rw [h p (by simp),ZZ,Ztt λq hq=>h q (by simp [hq]),ZZ,List.any_cons]
theorem ZrS {P:List Int}{U:List ZaB}{b:Bool}(hU:U.length<=300)(hst:∀ x∈U,0<=x.Stream/\x.Stream<(P.length:Int))(hN:2000<=N) :
  ZaY (λx:Int=>Zb2 N ⟨⟨P,U⟩,b⟩ x) N 0=some (if Zjf P U=true then .inr 341 else .inl ()):=by
 rw [Zk1 (l:=U) (p:=λx => !decide (x.Long>perU P x)) (bad:=.inr 341) (fin:=.inl ()) (λk hk=>?_) (by simp [Zb2]) (by omega)]
 ·have e:(U.all λx => !decide (x.Long>perU P x)) = !Zjf P U:=by
   unfold Zjf
   rw [List.not_any_eq_all_not]
  rw [e]
  cases Zjf P U<;>rfl
 obtain ⟨a,c⟩:=hst _ (List.getElem_mem hk)
 simp only [Zb2]
 rw [Z9 (by simpa using hk),ZcT hk,ZZ,ZoR a c,ZZ,ZaW (by omega)]
 by_cases d:U[k].Long>perU P U[k]
 ·rw [Z9 (by simpa using d),Z8 (by simpa using d)]
 rw [Z8 (by simpa using d),Z9 (by simpa using d)]
theorem W_eq {P:List Int}{U us:List ZaB}{b:Bool}{C:Int}(h0:0<=C)(h1:C<=960)(hl:us.length<=300)(hst:∀ x∈us,0<=x.Stream/\x.Stream<(P.length:Int))(hp:∀ x∈us,1<=perU P x)(e:Int)(hN:2000<=N) :
  ZcG N ⟨⟨P,U⟩,b⟩ (C,e) us=some (decide (sumC P C us>63)):=by
 unfold ZcG
 obtain ⟨o,ho,eo⟩:=ZcS (body:=λx:Int×Int=>Zcr N ⟨⟨P,U⟩,b⟩ (C,e) us x.1 x.2)
  (λx=>∃ k:Nat,x.2=k/\k<=us.length/\x.1=sumC P C (us.take k)) (λx=>(us.length-x.2).toNat) (λr=>r=sumC P C us) (λx hx=>by
   obtain ⟨c,i⟩:=x
   obtain ⟨k,k1,k2,k3⟩:=hx
   simp only at k1 k3
   subst k1 k3
   simp only [Zcr]
   by_cases c:k<us.length
   ·left
    have hm:=List.getElem_mem c
    obtain ⟨a1,a2⟩:=hst _ hm
    have q:=hp _ hm
    have s1:=Zkw (P:=P) h0 h1 (U:=us.take k) λx hx=>hp x (List.mem_of_mem_take hx)
    have hlen:(us.take k).length<=300:=by simp;omega
    have d:=ZeN (a:=C) (B:=C) q (by omega) (by omega) h0
    have d0:0<=C/perU P us[k]:=Int.ediv_nonneg h0 (by omega)
    have et:C.tdiv (perU P us[k])=C/perU P us[k]:=Zl h0
    refine ⟨(sumC P C (us.take (k+1)),((k+1:Nat):Int)),?_,⟨k+1,rfl,by omega,rfl⟩,by simp;omega⟩
    rw [Z9 (by simpa using c),ZcT c,ZZ,ZoR a1 a2,ZZ,Zi2 (by omega),ZZ,et]
    have ew:IntKind.i64.wrap (C/perU P us[k])=C/perU P us[k]:=ZaO (by omega) (by omega)
    have es:sumC P C (us.take (k+1))=sumC P C (us.take k)+C/perU P us[k]:=by
     rw [ZdN c,ZqD];simp [sumC,et]
    rw [ew,ZaO (by omega) (by omega),ZaW (by omega),es]
   right
   obtain rfl:k=us.length:=by omega
   exact ⟨sumC P C us,by rw [Z8 (by simp),ZU],rfl⟩) N (0,0) ⟨0,rfl,by omega,by simp [sumC]⟩ (by simp;omega)
 rw [ho,ZZ,eo]
theorem Ztf {P:List Int}{C:Int}{U:List ZaB}{m:List (Int×List ZaB)}(h:Grp U m):(m.any λp=>decide (sumC P C p.2>63))=Zqt P C U:=by
 unfold Zqt Zij
 rw [Zf,List.any_eq_true,List.any_eq_true]
 constructor
 ·rintro ⟨p,hp,hs⟩
  obtain ⟨e,ne⟩:=h.val p hp
  obtain ⟨x,hx⟩:=List.exists_mem_of_ne_nil _ ne
  rw [e] at hx
  obtain ⟨hx1,hx2⟩:=List.mem_filter.1 hx
  have:x.Port=p.1:=by simpa using hx2
  refine ⟨x,hx1,?_⟩
  rw [this,← e]
  exact hs
 rintro ⟨x,hx,hs⟩
 obtain ⟨p,hp,e⟩:=h.key x hx
 refine ⟨p,hp,?_⟩
 rw [(h.val p hp).1,e]
 exact hs
theorem ZjP {a:Ac}{n:Nat}(h:AcOK t u n a)(hn:n<=12)(hN:2000<=N):ZdY N ⟨⟨a.P,a.U⟩,a.late⟩=some (errC a):=by
 obtain ⟨h1,h2,h3,h4,h5,h6,h7⟩:=h
 have hper:∀ x∈a.U,1<=perU a.P x:=λx hx=>by
  obtain ⟨c,d⟩:=h4 x hx
  have:=Zkf.1 (List.all_eq_true.1 h3 _ (Zsd c d))
  omega
 unfold ZdY errC
 simp only
 rw [ZmG hN (by omega) h3,ZZ]
 by_cases hc:lcmL a.P<=960
 ·rw [Z9 hc,Z9 hc]
  simp only [Z5,Zg,Z7]
  obtain ⟨m,hm,em⟩:=ZcS (body:=λx:Int×(List (Int×(List ZaB)))=>Zcs N ⟨⟨a.P,a.U⟩,a.late⟩ x.1 x.2)
   (λx=>∃ k:Nat,x.1=k/\k<=a.U.length/\Grp (a.U.take k) x.2) (λx=>(a.U.length-x.1).toNat) (λr=>Grp a.U r) (λx hx=>by
    obtain ⟨i,m⟩:=x
    obtain ⟨k,k1,k2,k3⟩:=hx
    simp only at k1 k3
    subst k1
    simp only [Zcs]
    by_cases c:k<a.U.length
    ·left
     have hlen:(Zhk m a.U[k].Port []).length<=192:=by
      rw [k3.get]
      have:=List.length_filter_le (λx=>x.Port==a.U[k].Port) (a.U.take k)
      have e:(a.U.take k).length<=192:=by simp;omega
      omega
     refine ⟨(((k+1:Nat):Int),Zed m a.U[k].Port (Zhk m a.U[k].Port []++[a.U[k]])),?_,⟨k+1,rfl,by omega,?_⟩,by simp;omega⟩
     ·rw [Z9 (by simpa using c),ZcT c,ZZ,ZiX (by omega) (by omega),ZZ,ZaW (by omega)]
     simp only
     rw [ZdN c]
     exact k3.add _
    right
    obtain rfl:k=a.U.length:=by omega
    rw [ZU] at k3
    exact ⟨m,by rw [Z8 (by simp)],k3⟩) N (0,[]) ⟨0,rfl,by omega,⟨by simp,by simp,by simp⟩⟩ (by simp;omega)
  rw [hm,ZZ]
  rw [Ztt (g:=λus=>decide (sumC a.P (lcmL a.P) us>63)) (λp hp=>by
   have e:=(em.val p hp).1
   have hsub:∀ x∈p.2,x∈a.U:=λx hx=>by rw [e] at hx;exact (List.mem_filter.1 hx).1
   have hl:p.2.length<=192:=by
    rw [e]
    have:=List.length_filter_le (λx=>x.Port==p.1) a.U
    omega
   exact W_eq (by omega) (by omega) (by omega) (λx hx=>h4 x (hsub x hx)) (λx hx=>hper x (hsub x hx)) 0 hN),ZZ,Ztf em]
  cases hf:Zqt a.P (lcmL a.P) a.U with
  | true=>rfl
  | false =>
   simp only [Zg,Z7]
   rw [ZrS (by omega) h4 hN,ZZ]
   cases Zjf a.P a.U with
   | true=>rfl
   | false=>cases a.late<;>rfl
 rw [Z8 hc,Z8 hc]
 rfl
def Zkj:Zaw:=⟨[],[]⟩
def ofS (t:Zag)(u:ZaE)(l:List Zah):Zaw×Int :=
 if Ze8 t=true then (if ZeZ u=true then (if allR t l=0 then (if errC (accA t u l)=0 then (⟨(accA t u l).P,(accA t u l).U⟩,0) else (Zkj,errC (accA t u l))) else (Zkj,allR t l)) else (Zkj,320)) else (Zkj,260)
theorem Ztm:allR t []=if Ze8 t=true then 0 else 260:=by
 unfold allR
 cases Ze8 t<;>simp [allB]
theorem Zqy {l:List Zah}(h:allR t l=0):l.length<=12/\∀ x∈l,ZbI t x=true:=by
 unfold allR at h
 by_cases c:Ze8 t=true
 ·rw [Z9 c] at h
  by_cases d:l.length<=12
  ·rw [Z9 d] at h
   by_cases e:l.all (ZbI t)=true
   ·exact ⟨d,List.all_eq_true.1 e⟩
   rw [Z8 e] at h;omega
  rw [Z8 d] at h;omega
 rw [Z8 c] at h;omega
theorem Zrp (l:List Zah)(hN:2000<=N):ZfG N t u l=some (ofS t u l):=by
 unfold ZfG ofS
 rw [ZgT _ (by omega),ZZ,Ztm]
 cases hT:Ze8 t with
 | false=>rfl
 | true =>
  simp only [Zaa,Z5,Zg,Z7]
  rw [Zgc,ZZ]
  cases hU:ZeZ u with
  | false=>rfl
  | true =>
   simp only [Zaa,Z5,Zg,Z7]
   rw [ZgT _ (by omega),ZZ]
   by_cases hA:allR t l=0
   ·obtain ⟨h12,hl⟩:=Zqy hA
    rw [Z9 hA,hA,Z8 (by simp),Zpx hT hU hl h12 hN,ZZ]
    simp only
    rw [ZjP (Znn (ZbQ.1 hT) (ZdC hU) hl) h12 hN,ZZ]
    by_cases e:errC (accA t u l)=0
    ·rw [Z9 e,e];rfl
    rw [Z8 e,Z9 (by simpa using e)];rfl
   rw [Z8 hA,Z9 (by simpa using hA)];rfl
end
end Go.Sh

namespace Go.Sh
open Go Go.Eng
section
variable {N:Nat} {t:Zag} {u:ZaE} {s:Zah}
theorem Zpv (g:Good t)(hu:ZiZ u)(hs:ZjD s){r:List Int}(e2:ZbK t r=true)(hN:30000000<=N):ZiC N t u s r=some (Zbq t u (ZaU t u s r (r.length-1))):=by
 obtain ⟨h1,h8,hp⟩:=ZcR e2
 have hL:t.Links.length<=1000:=by have:=g.l24;omega
 unfold ZiC
 rw [Zlj g hu hs e2 hN,ZZ]
 have hj:r.length-1<r.length:=by omega
 have hb:=Zgo g hu hs hp _ hj
 obtain ⟨b1,b2,b3,b4⟩:=Zgv g hu hs hp h8 hj
 obtain ⟨_,_,d1,d2⟩:=Zgt g hb.port
 have lo1:=hb.long1;have lo2:=hb.long2
 have p1:=hu.p1;have p2:=hu.p2
 have x3:idx ((List.range r.length).map (ZaU t u s r)) (w64 (((List.length ((List.range r.length).map (ZaU t u s r)):Nat):Int)-1))=some (ZaU t u s r (r.length-1)):=by
  rw [ZK,List.length_range,ZaO (by omega) (by omega),show ((r.length:Nat):Int)-1=((r.length-1:Nat):Int) by omega,ZlY _ hj]
 rw [x3,ZZ,ZjB hL hb.port,ZZ]
 have htold:(ZaU t u s r (r.length-1)).Open+(ZaU t u s r (r.length-1)).Long+(plk t (ZaU t u s r (r.length-1)).Port).Delay+u.Proc=Zbq t u (ZaU t u s r (r.length-1)):=rfl
 rw [ZaO (x:=(ZaU t u s r (r.length-1)).Open+(ZaU t u s r (r.length-1)).Long) (by omega) (by omega),ZaO (x:=(ZaU t u s r (r.length-1)).Open+(ZaU t u s r (r.length-1)).Long+_) (by omega) (by omega),htold,ZaO (by omega) (by omega)]
theorem ZlO (hT:Ze8 t=true)(hU:ZeZ u=true){l:List Zah}{i:Nat}(hi:i<l.length)(h:SS t l[i]){b:Bool}{P:List Int}{U:List ZaB}(hP:P.length<=100)(hUl:U.length<=900)(hN:30000000<=N) :
  ZaY (λx:Bool×Int×(List ZaB)=>ZeT N t u l (i:Int) P x.1 x.2.1 x.2.2) N (b,0,U)=some ((ZjH t u ⟨b,P,U⟩ l[i]).late,(ZjH t u ⟨b,P,U⟩ l[i]).U):=by
 have g:=ZbQ.1 hT
 have hu:=ZdC hU
 obtain ⟨s,es⟩:∃ s,s=l[i]:=⟨_,rfl⟩
 have ei:idx l (i:Int)=some s:=by rw [ZcT hi,es]
 rw [← es] at h ⊢
 have hs:=ZeY h.str
 have p1:=h.per1;have p2:=h.per2;have r1:=h.r1;have r2:=h.r2
 unfold ZjH
 rw [Z9 h.cls]
 simp only
 obtain ⟨o,ho,eo⟩:=ZcS (body:=λx:Bool×Int×(List ZaB)=>ZeT N t u l (i:Int) P x.1 x.2.1 x.2.2)
  (λx=>∃ k:Nat,x.2.1=k/\k<=s.Routes.length/\x.1=(b||(s.Routes.take k).any (Zk0 t u s))/\x.2.2=U++(s.Routes.take k).flatMap (Zdz t u (P.length:Int) s)) (λx=>(s.Routes.length-x.2.1).toNat)
  (λr=>r=(b||s.Routes.any (Zk0 t u s),U++s.Routes.flatMap (Zdz t u (P.length:Int) s))) (λx hx=>by
   obtain ⟨b',i',U'⟩:=x
   obtain ⟨k,k1,k2,k3,k4⟩:=hx
   simp only at k1 k3 k4
   subst k1 k3 k4
   simp only [ZeT]
   rw [ei]
   simp only [ZZ]
   by_cases c:k<s.Routes.length
   ·left
    have hv:=h.rt _ (List.getElem_mem c)
    obtain ⟨v1,v8,vp⟩:=ZcR hv
    refine ⟨(b||(s.Routes.take (k+1)).any (Zk0 t u s),((k+1:Nat):Int),U++(s.Routes.take (k+1)).flatMap (Zdz t u (P.length:Int) s)),?_,⟨k+1,rfl,by omega,rfl,rfl⟩,by simp;omega⟩
    rw [Z9 (by simpa using c),ZcT c]
    simp only [ZZ]
    rw [Zlj g hu hs hv hN,ZZ,Zpv g hu hs hv hN]
    have hfl:((s.Routes.take k).flatMap (Zdz t u (P.length:Int) s)).length<=8*(s.Routes.take k).length:=Zl0 _ _ λr hr=>Zl9 g (h.rt r (List.mem_of_mem_take hr)) _
    have htl:(s.Routes.take k).length<=2:=by simp;omega
    obtain ⟨q,hq,eq⟩:=ZcS (body:=λx:Int×(List ZaB)=>Zfy N u l (i:Int) P ((List.range s.Routes[k].length).map (ZaU t u s s.Routes[k])) x.1 x.2)
     (λx=>∃ j:Nat,x.1=j/\j<=s.Routes[k].length/\x.2=U++(s.Routes.take k).flatMap (Zdz t u (P.length:Int) s)++(Zdz t u (P.length:Int) s s.Routes[k]).take j) (λx=>(s.Routes[k].length-x.1).toNat)
     (λr=>r=U++(s.Routes.take k).flatMap (Zdz t u (P.length:Int) s)++Zdz t u (P.length:Int) s s.Routes[k]) (λx hx=>by
      obtain ⟨i',U'⟩:=x
      obtain ⟨j,j1,j2,j3⟩:=hx
      simp only at j1 j3
      subst j1 j3
      simp only [Zfy]
      have hlen:(Zdz t u (P.length:Int) s s.Routes[k]).length=s.Routes[k].length:=by simp [Zdz,ZoS]
      by_cases d:j<s.Routes[k].length
      ·left
       refine ⟨(((j+1:Nat):Int),U++(s.Routes.take k).flatMap (Zdz t u (P.length:Int) s)++(Zdz t u (P.length:Int) s s.Routes[k]).take (j+1)),?_,⟨j+1,rfl,by omega,rfl⟩,by simp;omega⟩
       have hmem:ZaU t u s s.Routes[k] j∈ZoS t u s s.Routes[k]:=List.mem_map.2 ⟨j,List.mem_range.2 d,rfl⟩
       have eh:(Zdz t u (P.length:Int) s s.Routes[k])[j]'(by omega)=useH u (P.length:Int) s.Period (ZaU t u s s.Routes[k] j):=by simp [Zdz,ZoS]
       rw [Z9 (by simpa using d),ei,ZZ,ZlY _ d,ZZ,Zpr hu (Zqq g hu hs hv hmem).1 p1 (by omega),ZZ,ZiX (by simp only [ZI,List.length_take];omega) (by omega),ZZ,ZaW (by omega),ZdN (by omega),eh]
       simp only [Zq]
      right
      obtain rfl:j=s.Routes[k].length:=by omega
      refine ⟨U++(s.Routes.take k).flatMap (Zdz t u (P.length:Int) s)++Zdz t u (P.length:Int) s s.Routes[k],?_,rfl⟩
      rw [Z8 (by simp),ZV (Nat.le_of_eq hlen)]) N (0,U++(s.Routes.take k).flatMap (Zdz t u (P.length:Int) s)) ⟨0,rfl,by omega,by simp⟩ (by simp;omega)
    rw [hq,ZZ,eq]
    have hj:s.Routes[k].length-1<s.Routes[k].length:=by omega
    obtain ⟨b1,b2,b3,b4⟩:=Zgv g hu hs vp v8 hj
    have s1:=hu.s1;have s2:=hu.s2
    rw [ZZ,ZaO (x:=2*u.Slack) (by omega) (by omega),ZaO (x:=Zbq t u (ZaU t u s s.Routes[k] (s.Routes[k].length-1))+2*u.Slack) (by omega) (by omega),ZaW (by omega),ZdN c,List.any_append,List.flatMap_append]
    have el:decide (Zbq t u (ZaU t u s s.Routes[k] (s.Routes[k].length-1))+2*u.Slack>s.Deadline)=Zk0 t u s s.Routes[k]:=rfl
    rw [el]
    simp only [List.any_cons,List.any_nil,Bool.or_false,List.flatMap_cons,List.flatMap_nil,List.append_nil,Zq]
    cases b<;>cases (s.Routes.take k).any (Zk0 t u s)<;>cases Zk0 t u s s.Routes[k]<;>simp
   right
   obtain rfl:k=s.Routes.length:=by omega
   exact ⟨(b||s.Routes.any (Zk0 t u s),U++s.Routes.flatMap (Zdz t u (P.length:Int) s)),by rw [Z8 (by simp),ZU],rfl⟩) N (b,0,U) ⟨0,rfl,by omega,by simp,by simp⟩ (by simp;omega)
 rw [ho,eo]
theorem Zoz (hT:Ze8 t=true)(hU:ZeZ u=true){l:List Zah}(hl:∀ x∈l,ZbI t x=true)(h12:l.length<=12)(hN:30000000<=N) :
  ZaY (λx:Bool×Int×(List Int)×(List ZaB)=>ZeU N t u l x.1 x.2.1 x.2.2.1 x.2.2.2) N (false,0,[],[])=some ((accA t u l).late,(accA t u l).P,(accA t u l).U):=by
 have g:=ZbQ.1 hT
 have hu:=ZdC hU
 obtain ⟨o,ho,eo⟩:=ZcS (body:=λx:Bool×Int×(List Int)×(List ZaB)=>ZeU N t u l x.1 x.2.1 x.2.2.1 x.2.2.2)
  (λx=>∃ k:Nat,x.2.1=k/\k<=l.length/\x.1=(accA t u (l.take k)).late/\x.2.2=((accA t u (l.take k)).P,(accA t u (l.take k)).U)) (λx=>(l.length-x.2.1).toNat)
  (λr=>r=((accA t u l).late,(accA t u l).P,(accA t u l).U)) (λx hx=>by
   obtain ⟨b,i,y⟩:=x
   obtain ⟨k,k1,k2,k3,k4⟩:=hx
   simp only at k1 k3 k4
   subst k1 k3 k4
   simp only [ZeU]
   by_cases c:k<l.length
   ·left
    have hs:=hl _ (List.getElem_mem c)
    have ha:=Znn (t:=t) (u:=u) g hu (l:=l.take k) λx hx=>hl x (List.mem_of_mem_take hx)
    have a1:=ha.pl;have a2:=ha.ul
    have htl:(l.take k).length<=12:=by simp;omega
    refine ⟨((accA t u (l.take (k+1))).late,((k+1:Nat):Int),(accA t u (l.take (k+1))).P,(accA t u (l.take (k+1))).U),?_,⟨k+1,rfl,by omega,rfl,rfl⟩,by simp;omega⟩
    rw [Z9 (by simpa using c),ZcT c]
    simp only [ZZ]
    rw [ZaW (by omega),Zp5 l k c]
    by_cases hc:l[k].Class=7
    ·have e:=ZlO (N:=N) hT hU c (SS.of hs hc) (b:=(accA t u (l.take k)).late) (P:=(accA t u (l.take k)).P) (U:=(accA t u (l.take k)).U) (by omega) (by omega) hN
     rw [Z8 (by simpa using hc),e,ZZ,ZiX (by omega) (by omega),ZZ]
     simp only [ZZ]
     unfold ZjH
     rw [Z9 hc]
    rw [Z9 (by simpa using hc)]
    unfold ZjH
    rw [Z8 hc]
    rfl
   right
   obtain rfl:k=l.length:=by omega
   exact ⟨((accA t u l).late,(accA t u l).P,(accA t u l).U),by rw [Z8 (by simp),ZU],rfl⟩) N (false,0,[],[]) ⟨0,rfl,by omega,by simp [accA],by simp [accA]⟩ (by simp;omega)
 rw [ho,eo]
theorem Zs2 {P:List Int}{U:List ZaB}{b:Bool}{C:Int}(h0:0<=C)(h1:C<=960)(hl:U.length<=300)(hst:∀ x∈U,0<=x.Stream/\x.Stream<(P.length:Int))(hp:∀ x∈U,1<=perU P x)(q:Int)(hN:2000<=N) :
  ZaY (λx:Int×Int=>ZeS N (b,P,U) C q x.1 x.2) N (0,0)=some (Zij P C U q):=by
 obtain ⟨o,ho,eo⟩:=ZcS (body:=λx:Int×Int=>ZeS N (b,P,U) C q x.1 x.2)
  (λx=>∃ k:Nat,x.2=k/\k<=U.length/\x.1=Zij P C (U.take k) q) (λx=>(U.length-x.2).toNat) (λr=>r=Zij P C U q) (λx hx=>by
   obtain ⟨c,i⟩:=x
   obtain ⟨k,k1,k2,k3⟩:=hx
   simp only at k1 k3
   subst k1 k3
   simp only [ZeS]
   by_cases c:k<U.length
   ·left
    have hm:=List.getElem_mem c
    obtain ⟨a1,a2⟩:=hst _ hm
    have hq:=hp _ hm
    have s1:=Zkw (P:=P) h0 h1 (U:=(U.take k).filter λx=>x.Port==q) λx hx=>hp x (List.mem_of_mem_take (List.mem_filter.1 hx).1)
    have hlen:((U.take k).filter λx=>x.Port==q).length<=300:=by
     have:=List.length_filter_le (λx:ZaB=>x.Port==q) (U.take k)
     have e:(U.take k).length<=300:=by simp;omega
     omega
    have d:=ZeN (a:=C) (B:=C) hq (by omega) (by omega) h0
    have d0:0<=C/perU P U[k]:=Int.ediv_nonneg h0 (by omega)
    have et:C.tdiv (perU P U[k])=C/perU P U[k]:=Zl h0
    have ew:IntKind.i64.wrap (C/perU P U[k])=C/perU P U[k]:=ZaO (by omega) (by omega)
    refine ⟨(Zij P C (U.take (k+1)) q,((k+1:Nat):Int)),?_,⟨k+1,rfl,by omega,rfl⟩,by simp;omega⟩
    have es:Zij P C (U.take (k+1)) q=Zij P C (U.take k) q+(if U[k].Port==q then C/perU P U[k] else 0):=by
     unfold Zij
     rw [ZdN c,List.filter_append,ZqD]
     congr 1
     cases hh:U[k].Port==q with
     | false=>simp [List.filter,hh,sumC]
     | true=>simp [List.filter,hh,sumC,et]
    have s2:0<=Zij P C (U.take k) q/\Zij P C (U.take k) q<=960*300:=by
     unfold Zij;omega
    rw [Z9 (by simpa using c),ZcT c]
    simp only [ZZ]
    rw [ZoR a1 a2,ZZ,Zi2 (by omega),ZZ,et,ew,ZaW (by omega),es]
    cases hh:U[k].Port==q with
    | false=>simp
    | true =>
     simp only [Zaa]
     rw [ZZ,ZaO (by omega) (by omega)]
   right
   obtain rfl:k=U.length:=by omega
   exact ⟨Zij P C U q,by rw [Z8 (by simp),ZU],rfl⟩) N (0,0) ⟨0,rfl,by omega,by simp [Zij,sumC]⟩ (by simp;omega)
 rw [ho,eo]
theorem ZrJ {P:List Int}{C:Int}{U:List ZaB}{n:Nat}(hp:∀ x∈U,0<=x.Port/\x.Port<(n:Int)):allB n (λq => !decide (Zij P C U (q:Int)>63)) = !Zqt P C U:=by
 rw [Zf,Zb9]
 unfold Zqt
 simp only [Zh,decide_eq_false_iff_not,List.any_eq_false,Z6]
 constructor
 ·intro h x hx hs
  have:=hp x hx
  refine h x.Port.toNat (by omega) ?_
  rw [Zo this.1]
  exact hs
 intro h q hq hs
 have hne:U.filter (λx=>x.Port==(q:Int))≠[]:=by
  intro e
  unfold Zij at hs
  rw [e] at hs
  simp [sumC] at hs
 obtain ⟨x,hx⟩:=List.exists_mem_of_ne_nil _ hne
 obtain ⟨hx1,hx2⟩:=List.mem_filter.1 hx
 have e:x.Port=(q:Int):=by simpa using hx2
 exact h x hx1 (by rw [e];exact hs)
theorem Zqe (l:List Zah)(hN:30000000<=N):ZeP N t u l=some (ofS t u l):=by
 unfold ZeP ofS
 rw [Zjx (by omega),ZZ]
 cases hT:Ze8 t with
 | false=>rfl
 | true =>
  simp only [Zi,Zg,Z7,Zaa]
  rw [ZnE,ZZ]
  cases hU:ZeZ u with
  | false=>rfl
  | true =>
   simp only [Zi,Zg,Z7,Zaa]
   rw [ZkO _ (by omega),ZZ]
   by_cases hA:allR t l=0
   ·obtain ⟨h12,hl⟩:=Zqy hA
    have g:=ZbQ.1 hT
    rw [Z9 hA,hA,Z8 (by simp),Zoz hT hU hl h12 hN,ZZ]
    obtain ⟨h1,h2,h3,h4,h5,h6,h7⟩:=Znn (t:=t) (u:=u) g (ZdC hU) hl
    obtain ⟨a,ea⟩:∃ a,a=accA t u l:=⟨_,rfl⟩
    rw [← ea] at h1 h2 h3 h4 h5 h6 h7 ⊢
    have hper:∀ x∈a.U,1<=perU a.P x:=λx hx=>by
     obtain ⟨c,d⟩:=h4 x hx
     have:=Zkf.1 (List.all_eq_true.1 h3 _ (Zsd c d))
     omega
    have hlp:=ZqT h3
    simp only
    rw [Zpt (by omega) (by omega) h3,ZZ]
    unfold errC
    by_cases hc:lcmL a.P<=960
    ·rw [Z9 hc,Z9 hc,Z8 (by simp;omega)]
     have hl24:=g.l24
     rw [ZbD (n:=2*t.Links.length) (p:=λq => !decide (Zij a.P (lcmL a.P) a.U (q:Int)>63)) (bad:=.inr (Zkj,7)) (fin:=.inl ()) (λq hq=>by
       simp only [Zfx]
       rw [ZaO (x:=2*((List.length t.Links:Nat):Int)) (by omega) (by omega),Z9 (by simp;omega),Zs2 (by omega) (by omega) (by omega) h4 hper (q:Int) (by omega),ZZ,ZaW (by omega)]
       by_cases d:Zij a.P (lcmL a.P) a.U (q:Int)>63
       ·rw [Z9 (by simpa using d),Z8 (by simpa using d)];rfl
       ·rw [Z8 (by simpa using d),Z9 (by simpa using d)]) (by
       simp only [Zfx]
       rw [ZaO (x:=2*((List.length t.Links:Nat):Int)) (by omega) (by omega),Z8 (by simp)]) (by omega),ZrJ (λx hx=>by
       have:=h5 x hx
       simp only [Zc9,Ze,Z6] at this
       omega)]
     cases hf:Zqt a.P (lcmL a.P) a.U with
     | true=>rfl
     | false =>
      simp only [Bool.not_false,Zaa,Zg,Z7,ZZ]
      obtain ⟨o,ho,eo⟩:=ZcS (body:=λx:Bool×Int=>Zfw N (a.late,a.P,a.U) x.1 x.2)
       (λx=>∃ k:Nat,x.2=k/\k<=a.U.length/\x.1=Zjf a.P (a.U.take k)) (λx=>(a.U.length-x.2).toNat) (λr=>r=Zjf a.P a.U) (λx hx=>by
        obtain ⟨c,i⟩:=x
        obtain ⟨k,k1,k2,k3⟩:=hx
        simp only at k1 k3
        subst k1 k3
        simp only [Zfw]
        by_cases c:k<a.U.length
        ·left
         obtain ⟨a1,a2⟩:=h4 _ (List.getElem_mem c)
         refine ⟨(Zjf a.P (a.U.take (k+1)),((k+1:Nat):Int)),?_,⟨k+1,rfl,by omega,rfl⟩,by simp;omega⟩
         have es:Zjf a.P (a.U.take (k+1))=(Zjf a.P (a.U.take k)||decide (a.U[k].Long>perU a.P a.U[k])):=by
          unfold Zjf
          rw [ZdN c,List.any_append]
          simp
         rw [Z9 (by simpa using c),ZcT c]
         simp only [ZZ]
         rw [ZoR a1 a2,ZZ,ZaW (by omega),es]
         cases Zjf a.P (a.U.take k) with
         | true=>rfl
         | false=>cases decide (a.U[k].Long>perU a.P a.U[k])<;>rfl
        right
        obtain rfl:k=a.U.length:=by omega
        exact ⟨Zjf a.P a.U,by rw [Z8 (by simp),ZU],rfl⟩) N (false,0) ⟨0,rfl,by omega,by simp [Zjf]⟩ (by simp;omega)
      rw [ho,ZZ,eo]
      cases Zjf a.P a.U with
      | true=>rfl
      | false=>cases a.late<;>rfl
    rw [Z8 hc,Z8 hc]
    rfl
   rw [Z8 hA,Z9 (by simpa using hA)];rfl
theorem ZmA {p:Zaw}(h1:p.Periods.length<=1000)(h2:p.Uses.length<=1000)(hN:2000<=N):ZcF N p p=some true:=by
 unfold ZcF
 rw [Z8 (by simp)]
 rw [Zk1 (l:=p.Periods) (p:=λ_=>true) (bad:=.inr false) (fin:=.inl ()) (λk hk=>by
   simp only [Zes]
   rw [Z9 (by simpa using hk),ZcT hk,ZZ,ZZ,Z8 (by simp),ZaW (by omega)];simp) (by simp [Zes]) (by omega),
  Zk1 (l:=p.Uses) (p:=λ_=>true) (bad:=.inr false) (fin:=.inl ()) (λk hk=>by
   simp only [Zer]
   rw [Z9 (by simpa using hk),ZcT hk,ZZ,ZZ,Z8 (by simp),ZaW (by omega)];simp) (by simp [Zer]) (by omega)]
 have a1:p.Periods.all (λ_=>true)=true:=by simp
 have a2:p.Uses.all (λ_=>true)=true:=by simp
 rw [a1,a2]
 rfl
theorem Zsg (l:List Zah):(ofS t u l).1.Periods.length<=1000/\(ofS t u l).1.Uses.length<=1000:=by
 unfold ofS
 by_cases hT:Ze8 t=true
 ·rw [Z9 hT]
  by_cases hU:ZeZ u=true
  ·rw [Z9 hU]
   by_cases hA:allR t l=0
   ·rw [Z9 hA]
    obtain ⟨h12,hl⟩:=Zqy hA
    have h:=Znn (t:=t) (u:=u) (ZbQ.1 hT) (ZdC hU) hl
    have h1:=h.pl;have h2:=h.ul
    by_cases e:errC (accA t u l)=0
    ·rw [Z9 e];simp only;omega
    rw [Z8 e];simp [Zkj]
   rw [Z8 hA];simp [Zkj]
  rw [Z8 hU];simp [Zkj]
 rw [Z8 hT];simp [Zkj]
theorem Zt3 (l:List Zah)(hN:2000<=N):ZcF N (ofS t u l).1 (ofS t u l).1=some true:=ZmA (Zsg l).1 (Zsg l).2 hN
theorem Ztb (v:Zhc)(hv:ZjV v){l:List Zah}(h6:l.length<=6)(hN:2000<=N):∃ o,ZaY (λx:Int×(List Zah)=>Zch N v x.1 x.2) N (0,l)=some o/\o.length=l.length:=by
 obtain ⟨o,ho,eo⟩:=ZcS (body:=λx:Int×(List Zah)=>Zch N v x.1 x.2) (λx=>∃ k:Nat,x.1=k/\k<=l.length/\x.2.length=l.length) (λx=>(l.length-x.1).toNat) (λr=>r.length=l.length) (λx hx=>by
  obtain ⟨i,m⟩:=x
  obtain ⟨k,k1,k2,k3⟩:=hx
  simp only at k1 k3
  subst k1
  simp only [Zch]
  by_cases c:k<l.length
  ·left
   have sh:∀ q:Nat,q<100->∃ z,shrI .u16 v.x0 (IntKind.u64.wrap (q:Int))=some z:=λq hq=>by
    have:IntKind.u64.wrap (q:Int)=q:=by
     have:=ZtD (n:=q) (by omega)
     unfold IntKind.wrap
     simp [IntKind.bits,IntKind.signed]
     omega
    unfold shrI
    rw [this,Z8 (by omega)]
    exact ⟨_,rfl⟩
   obtain ⟨z1,e1⟩:=sh k (by omega)
   obtain ⟨z2,e2⟩:=sh (k+6) (by omega)
   have w6:w64 ((k:Int)+6)=((k+6:Nat):Int):=by rw [ZaO (by omega) (by omega)];omega
   rw [Z9 (by simp;omega),e1,w6,e2]
   simp only [ZZ]
   have hk:k<m.length:=by omega
   have one:∃ m1:List Zah,(if (andI .u16 z1 1==1)=true then ((idx m (k:Int)).bind λe1523=>(some (List.set m (Int.toNat (k:Int)) (Zah.mk e1523.Id e1523.Talker e1523.Listener e1523.Class e1523.Size e1523.Period e1523.Bucket (w64 (1+(w64 (v.x1)))) e1523.Routes)))) else (some m))=some m1/\m1.length=l.length:=by
    by_cases d:(andI .u16 z1 1==1)=true
    ·rw [Z9 d,ZcT hk,ZZ];exact ⟨_,rfl,by simp [k3]⟩
    rw [Z8 d];exact ⟨_,rfl,k3⟩
   obtain ⟨m1,f1,g1⟩:=one
   rw [f1,ZZ]
   have hk1:k<m1.length:=by omega
   rw [ZcT hk1]
   simp only [ZZ]
   have two:∃ m2:List Zah,(((if (andI .u16 z2 1==1)=true then (some (m1[k].Class==7)) else (some false)).bind λ(j1533:Bool)=>(if j1533=true then (some (List.set m1 (Int.toNat (k:Int)) (Zah.mk m1[k].Id m1[k].Talker m1[k].Listener m1[k].Class m1[k].Size (w64 (1+(w64 ((Int.tmod v.x2 240))))) m1[k].Bucket m1[k].Deadline m1[k].Routes))) else (some m1))):Option (List Zah))=some m2/\m2.length=l.length:=by
    by_cases d:(andI .u16 z2 1==1)=true
    ·rw [Z9 d,ZZ]
     by_cases e:(m1[k].Class==7)=true
     ·rw [Z9 e];exact ⟨_,rfl,by simp [g1]⟩
     rw [Z8 e];exact ⟨_,rfl,g1⟩
    rw [Z8 d,ZZ,Z8 (by simp)];exact ⟨_,rfl,g1⟩
   obtain ⟨m2,f2,g2⟩:=two
   rw [f2,ZZ,ZaW (by omega)]
   exact ⟨_,rfl,⟨k+1,rfl,by omega,g2⟩,by simp;omega⟩
  right
  obtain rfl:k=l.length:=by omega
  exact ⟨m,by rw [Z8 (by simp;omega)],k3⟩) N (0,l) ⟨0,rfl,by omega,rfl⟩ (by simp;omega)
 exact ⟨o,ho,eo⟩
theorem planMakes_true (d:Zbi)(l:List ZbN)(w:Zlf)(v:Zhc)(hd:Zhm d)(hl:l.length<=maxLen/\∀ x∈l,Zhl x)(hw:Zoi w)(hv:ZjV v):∃ N,Zfl N d l w v=some true:=by
 refine ⟨30000000+l.length,?_⟩
 obtain ⟨N,eN⟩:∃ N,N=30000000+l.length:=⟨_,rfl⟩
 rw [← eN]
 obtain ⟨t,t1,t2,t3⟩:=ZrM (N:=N) (DOK.of hd) (by omega)
 obtain ⟨u,u1,u2⟩:=Zj7 (N:=N) (Zfo hw.1) (Zfo hw.2.1) (Zfo hw.2.2)
 obtain ⟨s,s1,s2⟩:=Zj6 (N:=N) t2 t3 (λd hd=>SDOK.of (hl.2 d hd)) hl.1 (by omega)
 have h6:=s2.len
 obtain ⟨o,o1,o2⟩:=Ztb (N:=N) v hv h6 (by omega)
 unfold Zfl
 rw [t1,ZZ,s1,ZZ,u1,ZZ,Zoe (by simp;omega) (by omega),ZZ,ZQ,o1,ZZ]
 have last:∃ q:List Zah,(((if (decide (((List.length o:Nat):Int)>1))=true then (some ((Int.tmod v.x3 8)==0)) else (some false)).bind λ(j2046:Bool) =>
 (if j2046=true then ((idx o 0).bind λe2048 =>
 ((idx o 1).bind λe2051 =>
 (some (List.set o (Int.toNat 1) (Zah.mk e2048.Id e2051.Talker e2051.Listener e2051.Class e2051.Size e2051.Period e2051.Bucket e2051.Deadline e2051.Routes))))) else (some o))):Option (List Zah))=some q:=by
  by_cases c:1<o.length
  ·rw [Z9 (by simp;omega),ZZ,Zlw (by omega) (by simp;omega),Zlw (by omega) (by simp;omega)]
   by_cases d:(Int.tmod v.x3 8==0)=true
   ·rw [Z9 d];exact ⟨_,rfl⟩
   rw [Z8 d];exact ⟨_,rfl⟩
  rw [Z8 (by rw [Z6];omega),ZZ,Z8 (by simp)];exact ⟨_,rfl⟩
 obtain ⟨q,hq⟩:=last
 rw [hq,ZZ]
 have hN:30000000<=N:=by omega
 have hN2:2000<=N:=by omega
 simp only [Zrp _ hN2,Zqe _ hN,ZZ,Z5,Zg,Z7,Zt3 _ hN2,Zi,ZtB hN2]
end
end Go.Sh

