/- Part of the proof; written by a program out of the texts in wip/. -/
import Derived.Test.YtmplmekdilmdgaaStreamChecksStr2
import Derived.Test.YtmplmekdilmdgaaStreamChecksTop10
set_option linter.unusedVariables false
set_option linter.unusedSimpArgs false
namespace Go.Sh
open Go Go.Eng
theorem ZnJ {ρ:Type} {n:Nat} {body:Int→Option (Int ⊕ ρ)} {fin:ρ} (a:Nat) (hstep:∀ k:Nat,a≤k→k<n→body (k:Int)=some (.inl ((k+1:Nat):Int))) (hend:body (n:Int)=some (.inr fin)) (ha:a≤n) {N:Nat} (hN:n<N):Z2 body N (a:Int)=some fin:=by
 have key:∀ (m N k:Nat),n - k=m→a≤k→k≤n→m<N→Z2 body N (k:Int)=some fin:=by
  intro m
  induction m with
  | zero =>
   intro N k h1 h0 h2 h3
   obtain rfl:k=n:=by omega
   cases N with
   | zero=>omega
   | succ N=>rw [Zbr hend]
  | succ m ih =>
   intro N k h1 h0 h2 h3
   cases N with
   | zero=>omega
   | succ N=>rw [Zdp (hstep k h0 (by omega)),ih N (k+1) (by omega) (by omega) (by omega) (by omega)]
 exact key (n - a) N a rfl (Nat.le_refl _) ha (by omega)
theorem ZkS (x:Int):Byte (IntKind.u8.wrap x):=by
 unfold Byte IntKind.wrap
 simp only [IntKind.bits,IntKind.signed]
 have h1:=Int.emod_nonneg x (show (2 ^ 8:Int) ≠ 0 by decide)
 have h2:=Int.emod_lt_of_pos x (show (0:Int)<2 ^ 8 by decide)
 simp only [Bool.false_and,Bool.false_eq_true,if_false]
 constructor<;>omega
section
variable {N:Nat} {t:Zg} {s:Zh}
theorem Zm9 {r:List Int} (h1:1≤r.length) (h:r.length≤100):idx r (w64 (((List.length r:Nat):Int) - 1))=some (at0 r (r.length - 1)):=by
 rw [Z5 (by omega) (by omega),show ((List.length r:Nat):Int) - 1=((r.length - 1:Nat):Int) by omega,ZcB (by omega),Zhz (by omega)]
theorem ZmN {r:List Int} (h1:1≤r.length):idx r 0=some (at0 r 0):=by
 rw [show (0:Int)=((0:Nat):Int) from rfl,ZcB (by omega),Zhz (by omega)]
theorem nd_last {r:List Int} (h1:1≤r.length):nd t r r.length=too t (at0 r (r.length - 1)):=by
 have:=Zfq (t:=t) (r:=r) (k:=r.length - 1) (by omega)
 rwa [show r.length - 1+1=r.length by omega] at this
theorem Zj6 (g:Good t) (s:Zh) (r:List Int) (hN:200≤N) :
  ((Zb9 N t r).bind fun r530=>(if (!r530) then (some true) else ((idx r 0).bind fun e533=>((ZbR N t e533).bind fun r534=>(if (r534 != s.Talker) then (some true) else ((idx r (w64 (((List.length r:Nat):Int) - 1))).bind fun e537=>((ZcJ N t e537).bind fun r538=>(some (r538 != s.Listener)))))))))=some (!ZeF t s r):=by
 have hL:t.Links.length≤1000:=by have:=g.l24;omega
 rw [Zgk g r hN,Option.bind_some]
 unfold ZeF
 cases hv:ZaG t r with
 | false=>rfl
 | true =>
  obtain ⟨h1,h8,hp⟩:=ZcK hv
  simp only [Bool.not_true,Bool.false_eq_true,if_false]
  rw [ZmN h1,Option.bind_some,Zc9 hL (hp 0 (by omega)),Option.bind_some,Zm9 h1 (by omega),Option.bind_some,Zdw hL (hp _ (by omega)),Option.bind_some,nd_zero,nd_last h1]
  by_cases e:frm t (at0 r 0)=s.Talker
  ·have:(frm t (at0 r 0) != s.Talker)=false:=by simp [e]
   rw [this]
   simp only [Bool.false_eq_true,if_false,e,beq_self_eq_true,Bool.true_and]
   rfl
  ·have:(frm t (at0 r 0) != s.Talker)=true:=by simp [e]
   rw [this]
   simp only [if_true,beq_eq_false_iff_ne.2 e,Bool.false_and,Bool.and_false,Bool.not_false]
theorem Zjg (g:Good t) {s:Zh} (hl:s.Routes.length≤2) (hN:200≤N):Z2 (fun x:Int=>ZbA N t s x) N 0=some (if s.Routes.all (ZeF t s) then .inl () else .inr false):=by
 have:=Zau (n:=s.Routes.length) (p:=fun k=>ZeF t s (s.Routes.getD k [])) (body:=fun x:Int=>ZbA N t s x) (bad:=.inr false) (fin:=.inl ()) (fun k hk=>by
  unfold ZbA
  rw [if_pos (by simp;omega),ZcB hk,Option.bind_some,ZcX hk,Zj6 g s _ hN,Option.bind_some,ZS (by omega)]
  cases ZeF t s s.Routes[k]<;>rfl) (by unfold ZbA;rw [if_neg (by simp)]) (N:=N) (by omega)
 rw [this,ZhA s.Routes [] (ZeF t s)]
theorem Zmw (g:Good t) {s:Zh} (hl:s.Routes.length≤2) (hN:200≤N):Z2 (fun x:Int=>Zdj N t s x) N 0=some (if s.Routes.all (ZeF t s) then .inl () else .inr false):=Zjg g hl hN
theorem Znw (g:Good t) {s:Zh} (hl:lenB s=true) (hr:s.Routes.all (ZeF t s)=true) (hN:200≤N) :
  (if (((List.length s.Routes:Nat):Int)==1) then (some true) else ((idx s.Routes 0).bind fun e545=>((idx s.Routes 1).bind fun e546=>((Zcx N t e545 e546).bind fun r547=>(some r547)))))=some (ZmB t s):=by
 simp only [lenB,Bool.and_eq_true,decide_eq_true_eq] at hl
 unfold ZmB
 by_cases h2:s.Routes.length<2
 ·rw [if_pos (by simp;omega)];simp [h2]
 ·rw [if_neg (by simp;omega),show (0:Int)=((0:Nat):Int) from rfl,show (1:Int)=((1:Nat):Int) from rfl,ZcB (by omega),ZcB (by omega)]
  simp only [Option.bind_some]
  have e0:=Zgg hr (k:=0) (by omega)
  have e1:=Zgg hr (k:=1) (by omega)
  rw [ZcX (by omega)] at e0 e1
  rw [ZgX g e0.1 e1.1 hN,Option.bind_some,ZcX (by omega),ZcX (by omega)]
  simp [h2]
theorem Zfn (g:Good t) (s:Zh) (hN:200≤N):Zdu N t s=some (ZaH t s):=by
 have head:((ZbZ N s.Id 1 4095).bind fun r1=>(if (!r1) then (some true) else ((ZbY N t s.Talker).bind fun r4=>(if (!r4) then (some true) else ((ZbY N t s.Listener).bind fun r7=>(if (!r7) then (some true) else (if (s.Talker==s.Listener) then (some true) else ((ZbZ N s.Size 84 1542).bind fun r12=>(if (!r12) then (some true) else ((ZbZ N s.Deadline 1 1099511627776).bind fun r15=>(some (!r15))))))))))))=some (!ZnO t s):=by
  simp only [ZfK,ZiA g,Option.bind_some]
  unfold ZnO
  cases inB s.Id 1 4095<;>cases ZjY t s.Talker<;>cases ZjY t s.Listener<;>cases h4:(s.Talker==s.Listener)<;>cases inB s.Size 84 1542<;>cases inB s.Deadline 1 1099511627776<;>simp [bne,h4]
 have rest:∀ L:Option (Unit ⊕ Bool),(s.Routes.length≤2→L=some (if s.Routes.all (ZeF t s) then .inl () else .inr false))→(if ((decide (((List.length s.Routes:Nat):Int)<1))||(decide (((List.length s.Routes:Nat):Int) > 2))) then (some false) else (L.bind fun o541=>match o541 with
   | (.inl p542)=>(((if (((List.length s.Routes:Nat):Int)==1) then (some true) else ((idx s.Routes 0).bind fun e545=>((idx s.Routes 1).bind fun e546=>((Zcx N t e545 e546).bind fun r547=>(some r547)))))).bind fun (j548:Bool)=>(some j548))
   | (.inr p549)=>(some p549)))=some (lenB s&&(s.Routes.all (ZeF t s)&&ZmB t s)):=by
  intro L hL
  cases hl:lenB s with
  | false =>
   rw [if_pos]
   ·rfl
   ·rw [Bool.eq_false_iff] at hl
    simp only [lenB,ne_eq,Bool.and_eq_true,decide_eq_true_eq] at hl
    simp only [Bool.or_eq_true,decide_eq_true_eq]
    omega
  | true =>
   have hl':=hl
   simp only [lenB,Bool.and_eq_true,decide_eq_true_eq] at hl'
   rw [if_neg (by simp only [Bool.or_eq_true,decide_eq_true_eq];omega),hL hl'.2]
   cases hr:s.Routes.all (ZeF t s) with
   | false=>rfl
   | true =>
    simp only [if_true,Option.bind_some]
    rw [Znw g hl hr hN]
    rfl
 unfold Zdu
 rw [head,Option.bind_some]
 unfold ZaH
 cases hh:ZnO t s with
 | false=>rfl
 | true =>
  simp only [Bool.not_true,Bool.false_eq_true,if_false,Bool.true_and]
  unfold Zmb
  simp only [ZfK,Option.bind_some]
  by_cases c7:(s.Class==7)=true
  ·rw [if_pos c7,if_pos c7]
   have r1:=rest _ (fun h=>Zjg g h hN)
   cases inB s.Period 1 240 with
   | false=>rfl
   | true=>cases (s.Bucket.Burst==0) with
    | false=>rfl
    | true=>cases (s.Bucket.Rate==0) with
     | false=>rfl
     | true=>exact r1
  ·rw [if_neg c7,if_neg c7]
   by_cases c6:(s.Class==6)=true
   ·rw [if_pos c6,if_pos c6]
    have r2:=rest _ (fun h=>Zmw g h hN)
    unfold bne
    cases (s.Period==0) with
    | false=>rfl
    | true=>cases inB s.Bucket.Burst s.Size 1048576 with
     | false=>rfl
     | true=>cases inB s.Bucket.Rate 1 2097152 with
      | false=>rfl
      | true=>exact r2
   ·rw [if_neg c6,if_neg c6];rfl
theorem Zj9 (hN:200≤N):Zcv N t s=some (if ZeD t then (if ZaH t s then 0 else 321) else 260):=by
 unfold Zcv
 rw [ZgZ (by omega),Option.bind_some]
 cases hT:ZeD t with
 | false=>rfl
 | true =>
  simp only [Bool.not_true,if_true,Bool.false_eq_true,if_false]
  rw [Zfn (Za1.1 hT) s hN,Option.bind_some]
  cases ZaH t s<;>rfl
structure SDOK (d:ZaK):Prop where
 node:Byte d.Node
 way:Byte d.Way
 size:Byte d.Size
 period:Byte d.Period
 burst:Byte d.Burst
 rate:0≤d.Rate∧d.Rate≤65535
def ZoJ (t:Zg):Prop:=∀ x:Int,0≤x→x<t.Nodes→∃ k,k<t.Links.length∧((lk t k).A=x∨(lk t k).B=x)
theorem Zgi (g:Good t) (hdeg:ZoJ t) {n k:Int} (hn:Byte n) (hk:Byte k) (hN:200≤N):∃ r,ZeH N t n k=some r∧(r=[]∨ZaG t r=true):=by
 have hL:t.Links.length≤1000:=by have:=g.l24;omega
 unfold ZeH
 obtain ⟨o,o1,o2⟩:=Zfd (body:=fun x:Int=>Zc3 N t n k x) (I:=fun x:Int=>∃ j:Nat,x=j∧j≤16) (μ:=fun x=>16 - x.toNat) (Post:=fun o:Unit ⊕ List Int=>o = .inl ()∨∃ r,o = .inr r∧ZaG t r=true) (by
  rintro x ⟨j,rfl,hj⟩
  simp only [Zc3]
  by_cases h16:j<16
  ·rw [if_pos (by simp;omega)]
   obtain ⟨r,r1,r2⟩:=Znt (N:=N) g hdeg hn (ZkS (k+IntKind.u8.wrap (j:Int))) hN
   obtain ⟨h1,h8,hp⟩:=ZcK r2
   have p0:=hp 0 (by omega)
   have pl:=hp (r.length - 1) (by omega)
   rw [r1,Option.bind_some,if_pos (by simp;omega),Zgk g r hN,r2,Option.bind_some,if_pos rfl,ZmN h1,Option.bind_some,Zc9 hL p0,Option.bind_some,Zeu g.st (Ze1 g p0).1,Option.bind_some,Zm9 h1 (by omega),Option.bind_some,Zdw hL pl,Option.bind_some,
    Zeu g.st (Ze1 g pl).2.1,Option.bind_some]
   have hne:neL r=some ():=by
    cases r with
    | nil=>simp at h1
    | cons a l=>rfl
   cases hc:(if stB t (frm t (at0 r 0))=true then some (stB t (too t (at0 r (r.length - 1)))) else some false) with
   | none=>split at hc<;>cases hc
   | some b =>
    rw [Option.bind_some]
    cases b with
    | true=>right;exact ⟨_,by rw [if_pos rfl,hne];rfl,.inr ⟨r,rfl,r2⟩⟩
    | false=>left;exact ⟨_,by rw [if_neg (by decide),ZS (by omega)],⟨j+1,rfl,by omega⟩,by simp;omega⟩
  ·right
   exact ⟨_,by rw [if_neg (by simp;omega)],.inl rfl⟩) N 0 ⟨0,rfl,by omega⟩ (by simp;omega)
 rw [o1,Option.bind_some]
 rcases o2 with rfl | ⟨r,rfl,hr⟩
 ·exact ⟨[],rfl,.inl rfl⟩
 ·exact ⟨r,rfl,.inr hr⟩
theorem ZfL (g:Good t) (hdeg:ZoJ t) {d:ZaK} (hd:SDOK d) (id:Int) (hN:200≤N):∃ x b,Zb0 N d t id=some (x,b)∧(b=true→ZaH t x=true∧x.Id=id):=by
 have hL:t.Links.length≤1000:=by have:=g.l24;omega
 have hn2:=g.n2
 have hn12:=g.n12
 unfold Zb0
 rw [Z5 (x:=d.Node) (by have:=hd.node.1;omega) (by have:=hd.node.2;omega)]
 obtain ⟨m,m1,m2,m3⟩:=ZdH (v:=d.Node) (b:=t.Nodes) hd.node.1 (by omega)
 rw [m1,Option.bind_some]
 obtain ⟨o,o1,o2⟩:=Zfd (body:=fun x:Int × Int=>ZaO N t x.1 x.2) (I:=fun x:Int × Int=>(0≤x.1∧x.1<t.Nodes)∧0≤x.2∧x.2≤t.Nodes) (μ:=fun x=>(t.Nodes - x.2).toNat) (Post:=fun o:Int=>0≤o∧o<t.Nodes) (by
  rintro ⟨a,i⟩ ⟨⟨a0,a1⟩,i0,i1⟩
  simp only at a0 a1 i0 i1
  simp only [ZaO]
  by_cases hi:i<t.Nodes
  ·rw [if_pos (by simp;omega),Zeu g.st (ZeY.2 ⟨a0,a1⟩),Option.bind_some,Option.bind_some]
   cases stB t a with
   | true=>right;exact ⟨a,by rfl,a0,a1⟩
   | false =>
    left
    obtain ⟨q,q1,q2,q3⟩:=ZdH (v:=a+1) (b:=t.Nodes) (by omega) (by omega)
    rw [if_pos (by simp),Z5 (by omega) (by omega),q1,Option.bind_some,Z5 (by omega) (by omega)]
    exact ⟨_,rfl,⟨⟨q2,q3⟩,by simp only;omega,by simp only;omega⟩,by simp only;omega⟩
  ·right
   rw [if_neg (by simp;omega)]
   exact ⟨a,rfl,a0,a1⟩) N (m,0) ⟨⟨m2,m3⟩,by simp,by simp only;omega⟩ (by simp only;omega)
 rw [o1,Option.bind_some]
 obtain ⟨r,r1,r2⟩:=Zgi (N:=N) g hdeg (ZkS o) hd.way hN
 rw [r1,Option.bind_some]
 rcases r2 with rfl | r2
 ·exact ⟨_,_,rfl,fun h=>by cases h⟩
 ·obtain ⟨h1,h8,hp⟩:=ZcK r2
  have hne:¬ List.isEmpty r=true:=by cases r with
   | nil=>simp at h1
   | cons a l=>simp
  rw [if_neg hne,ZmN h1,Option.bind_some,Zc9 hL (hp 0 (by omega)),Option.bind_some,Zm9 h1 (by omega),Option.bind_some,Zdw hL (hp _ (by omega)),Option.bind_some]
  have hj:∃ j:Int × Int × Int × Int,(if d.Reserved=true then some ((6:Int),(0:Int),w64 (w64 (84+w64 d.Size)+w64 (4 * w64 d.Burst)),w64 (1+w64 d.Rate)) else (idx [4,6,8,12,16,24,48,10,5,240] (Int.tmod d.Period 10)).bind fun e1021=>some (7,e1021,0,0))=some j:=by
   by_cases hr:d.Reserved=true
   ·rw [if_pos hr];exact ⟨_,rfl⟩
   ·rw [if_neg hr]
    have hm:Int.tmod d.Period 10=d.Period % 10:=Int.tmod_eq_emod_of_nonneg hd.period.1
    rw [hm,Zkw (Int.emod_nonneg _ (by decide)) (by have:=Int.emod_lt_of_pos d.Period (show (0:Int)<10 by decide);simp only [List.length_cons,List.length_nil];omega)]
    exact ⟨_,rfl⟩
  obtain ⟨j,j1⟩:=hj
  rw [j1,Option.bind_some]
  obtain ⟨o',p1,p2⟩:=Zfd (body:=fun x:Int × (List (List Int))=>ZaN N d t o r (too t (at0 r (r.length - 1))) x.1 x.2) (I:=fun x:Int × List (List Int)=>∃ k:Nat,x.1=k∧k≤24∧x.2.length≤k+1) (μ:=fun x=>24 - x.1.toNat) (Post:=fun _:List (List Int)=>True) (by
   rintro ⟨a,l⟩ ⟨k,rfl,hk,hl⟩
   simp only at hl
   simp only [ZaN]
   cases hc:(if decide ((k:Int)<24)=true then if d.Two=true then some (((List.length l:Nat):Int)==1) else some false else some false) with
   | none=>split at hc;split at hc;all_goals cases hc
   | some b =>
    rw [Option.bind_some]
    cases b with
    | false=>right;exact ⟨l,rfl,trivial⟩
    | true =>
     left
     have hk24:k<24:=by
      by_cases h:k<24
      ·exact h
      ·rw [if_neg (by simp;omega)] at hc;cases hc
     rw [if_pos rfl]
     obtain ⟨q,q1,q2⟩:=Zgi (N:=N) g hdeg (ZkS o) (ZkS (d.Way+IntKind.u8.wrap (k:Int))) hN
     rw [q1,Option.bind_some]
     have fin:∀ (X:Option (List (List Int))) (l':List (List Int)),X=some l'→l'.length≤k+1+1→∃ y,(X.bind fun j2037=>some (Sum.inl (β:=List (List Int)) (w64 ((k:Int)+1),j2037)))=some (Sum.inl (β:=List (List Int)) y)∧(∃ k_1:Nat,y.1=(k_1:Int)∧k_1≤24∧y.2.length≤k_1+1)∧24 - y.1.toNat<24 - (k:Int).toNat:=by
      intro X l' hX hl'
      subst hX
      exact ⟨_,by rw [Option.bind_some,ZS (by omega)],⟨k+1,rfl,by omega,hl'⟩,by simp only [Int.toNat_natCast];omega⟩
     rcases q2 with rfl | q2
     ·exact fin _ l rfl (by omega)
     ·obtain ⟨w1,w8,wp⟩:=ZcK q2
      have wne:¬ List.isEmpty q=true:=by cases q with
       | nil=>simp at w1
       | cons a l=>simp
      rw [if_neg wne,Zm9 w1 (by omega),Option.bind_some,Zdw hL (wp _ (by omega)),Option.bind_some,ZgX g r2 q2 hN,Option.bind_some]
      cases hc2:(if (too t (at0 q (q.length - 1))==too t (at0 r (r.length - 1)))=true then some (ZjT t r q) else some false) with
      | none=>split at hc2<;>cases hc2
      | some b2 =>
       rw [Option.bind_some]
       cases b2 with
       | false=>exact fin _ l rfl (by omega)
       | true=>exact fin _ (l++[q]) (by rw [if_pos rfl,Zep (by simp;omega) (by omega)];rfl) (by simp;omega)) N (0,[r]) ⟨0,rfl,by omega,by simp⟩ (by simp;omega)
  rw [p1,Option.bind_some,Zfn g _ hN,Option.bind_some]
  exact ⟨_,_,rfl,fun h=>⟨h,rfl⟩⟩
structure SL (t:Zg) (l:List Zh):Prop where
 len:l.length≤6
 ok:∀ k,k<l.length→ZaH t (l.getD k dS)=true∧idAt l k=((k+1:Nat):Int)
theorem SL.snoc {l:List Zh} (h:SL t l) (h6:l.length<6) {x:Zh} (hx:ZaH t x=true) (hi:x.Id=((l.length+1:Nat):Int)):SL t (l++[x]):=by
 refine ⟨by simp;omega,fun k hk => ?_⟩
 unfold idAt
 by_cases e:k<l.length
 ·have:=h.ok k e
  unfold idAt at this
  rw [ZcX hk,List.getElem_append_left e,← ZcX e dS]
  exact this
 ·have:k=l.length:=by simp at hk;omega
  subst this
  rw [ZcX hk]
  simp only [List.getElem_append_right (Nat.le_refl _),Nat.sub_self,List.getElem_cons_zero]
  exact ⟨hx,hi⟩
theorem Zhk (g:Good t) (hdeg:ZoJ t) {L:List ZaK} (hL:∀ d ∈ L,SDOK d) (hlen:L.length≤maxLen) (hN:200+L.length≤N):∃ l,Zc4 N t L=some l∧SL t l:=by
 unfold Zc4
 obtain ⟨o,o1,o2⟩:=Zfd (body:=fun x:Int × (List Zh)=>ZbP N t L x.1 x.2) (I:=fun x:Int × List Zh=>∃ k:Nat,x.1=k∧k≤L.length∧SL t x.2) (μ:=fun x=>L.length - x.1.toNat) (Post:=SL t) (by
  rintro ⟨a,l⟩ ⟨k,rfl,hk,hl⟩
  simp only at hl
  simp only [ZbP]
  by_cases hkl:k<L.length
  ·rw [if_pos (by simp;omega),Option.bind_some]
   by_cases h6:l.length<6
   ·rw [if_pos (by simp;omega),ZcB hkl,Option.bind_some]
    obtain ⟨x,b,x1,x2⟩:=ZfL (N:=N) g hdeg (hL _ (List.getElem_mem hkl)) (w64 (((List.length l:Nat):Int)+1)) (by omega)
    rw [x1,Option.bind_some]
    have hw:w64 ((k:Int)+1)=((k+1:Nat):Int):=by
     rw [Z5 (by omega) (by have:L.length≤9223372036854775807:=hlen;omega)];omega
    left
    cases b with
    | false=>exact ⟨_,by rw [if_neg (by simp),Option.bind_some,hw],⟨k+1,rfl,by omega,hl⟩,by simp only [Int.toNat_natCast];omega⟩
    | true =>
     obtain ⟨y1,y2⟩:=x2 rfl
     have hs:=hl.snoc h6 y1 (by rw [y2,ZS (by omega)])
     exact ⟨_,by rw [if_pos rfl,Zep (by simp;omega) (by omega),Option.bind_some,Option.bind_some,hw],⟨k+1,rfl,by omega,hs⟩,by simp only [Int.toNat_natCast];omega⟩
   ·right
    exact ⟨l,by rw [if_neg (by simp;omega)],hl⟩
  ·right
   exact ⟨l,by rw [if_neg (by simp;omega)];rfl,hl⟩) N (0,[]) ⟨0,rfl,by omega,⟨by simp,fun k hk=>by simp at hk⟩⟩ (by simp;omega)
 exact ⟨o,by rw [o1];rfl,o2⟩
theorem Zhl {a b c:Int} (ha:Byte a) (hb:Byte b) (hc:Byte c):∃ u,ZdI N a b c=some u∧Zex u=true:=by
 obtain ⟨a0,a1⟩:=ha
 obtain ⟨b0,b1⟩:=hb
 obtain ⟨c0,c1⟩:=hc
 refine ⟨_,rfl,?_⟩
 have hm:Int.tmod b 40=b % 40:=Int.tmod_eq_emod_of_nonneg b0
 have e1:=Int.emod_nonneg b (show (40:Int) ≠ 0 by decide)
 have e2:=Int.emod_lt_of_pos b (show (0:Int)<40 by decide)
 rw [hm,Z5 (x:=a) (by omega) (by omega),Z5 (x:=20 * a) (by omega) (by omega),Z5 (x:=100+20 * a) (by omega) (by omega),Z5 (x:=b % 40) (by omega) (by omega),Z5 (x:=c) (by omega) (by omega)]
 simp only [Zex,inB,Bool.and_eq_true,decide_eq_true_eq]
 refine ⟨⟨?_,?_⟩,⟨?_,?_⟩,⟨?_,?_⟩,?_,?_⟩<;>omega
end
end Go.Sh

