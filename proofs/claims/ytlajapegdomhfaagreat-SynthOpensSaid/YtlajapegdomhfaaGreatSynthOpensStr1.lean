/-Part of the proof. -/
import Derived.Test.YtlajapegdomhfaaGreatSynthOpensBase
import Derived.Test.YtlajapegdomhfaaGreatSynthOpensRd
import Derived.KernelRfl
set_option linter.all false
namespace Go.Sh
open Go Go.Eng
section
variable {N:Nat} {t:Zaz}
def Zko (g:Good t)(r:List Int)(hN:200<=N):ZdM N t r=some (ZbS t r):=by
 by_cases h:r.length<=100
 ·exact ZqL g h hN
 unfold ZdM ZbS;rw[Zav (by simp;omega)];have:decide (r.length<=8)=false:=by simp;omega
 rw[this];simp
def Zki (g:Good t)(r:List Int)(hN:200<=N):ZcL N ⟨t⟩ r=some (ZbS t r):=by
 by_cases h:r.length<=100
 ·exact Zie g h hN
 unfold ZcL ZbS;rw[Zav (by simp;omega)];have:decide (r.length<=8)=false:=by simp;omega
 rw[this];simp
def ZmS {r:List Int}(h:ZbS t r=true):r.length<=100:=by have:=Zch h;omega
def Zhn (r:List Int)(hN:200<=N):Zfc N t r=some (errR t r):=by
 by_cases h:r.length<=100
 ·exact Zf7 h hN
 unfold Zfc errR;rw[ZgN (by omega),Zak];cases hT:Zef t with
 |false=>rfl
 |true=>
  simp only[Zaw,Zaq,Zg,Zat];rw[Zki (Zbg.1 hT) r hN,Zak];cases ZbS t r<;>rfl
def Zqv (r:List Int)(hN:200<=N):Zfh N t r=some (if errR t r=0 then(nd t r 0,nd t r r.length,0)else(0,0,errR t r)):=by
 by_cases he:errR t r=0
 ·rw[Zav he];exact Zqt (ZmS (ZkG.1 he).2) hN he
 rw[Zau he];by_cases h:r.length<=100
 ·exact Zqu h hN he
 have h0:(errR t r !=0)=true:=by simpa using he
 unfold Zfh Zfb Zd2;rw[Zhn r hN];simp only[Zak,h0,Zaw]
def Zpe (a b:List Int)(hN:200<=N):
  Zfd N t a b=some (if errR t a=0 then(if ZbS t b then(Zqj t a b,0)else(false,310))else(false,errR t a)):=by
 by_cases ha:a.length<=100
 ·by_cases hb:b.length<=100
  ·exact Zqx ha hb hN
  have h0:ZbS t b=false:=by
   cases h:ZbS t b with
   |false=>rfl
   |true=>exact absurd (ZmS h) hb
  unfold Zfd Zd1;rw[Zhn a hN,Zak];by_cases he:errR t a=0
  ·rw[Zav he,he];simp only[Zaq,Zg,Zat];unfold ZeA;rw[Zki (Zbg.1 (ZkG.1 he).1) b hN,h0];rfl
  rw[Zau he];have:(errR t a !=0)=true:=by simpa using he
  rw[this];rfl
 have h1:ZbS t a=false:=by
  cases h:ZbS t a with
  |false=>rfl
  |true=>exact absurd (ZmS h) ha
 have he:errR t a≠0:=λe=>by have:=(ZkG.1 e).2;rw[h1]at this;cases this
 unfold Zfd Zd1;rw[Zhn a hN,Zak,Zau he];have:(errR t a !=0)=true:=by simpa using he
 rw[this];rfl
def inB (v l h:Int):Bool:=decide (v≥l)&&decide (v<=h)
def ZdB (u:ZaC):Bool:=inB u.Grid 1 10000&&(inB u.Slack 0 1000&&(inB u.Proc 0 10000&&inB u.Cap 1542 65536))
def Zqp (t:Zaz)(n:Int):Bool:=Zfp t n&&stB t n
def Zry (s:Zax):Bool:=
 if s.Class==7 then inB s.Period 1 240&&((s.Bucket.Burst==0)&&(s.Bucket.Rate==0))
 else if s.Class==6 then(s.Period==0)&&(inB s.Bucket.Burst s.Size 1048576&&inB s.Bucket.Rate 1 2097152)else false
def Zg4 (t:Zaz)(s:Zax)(r:List Int):Bool:=ZbS t r&&((nd t r 0==s.Talker)&&(nd t r r.length==s.Listener))
def Zuy (t:Zaz)(s:Zax):Bool:=decide (s.Routes.length<2)||Zqj t (s.Routes.getD 0 []) (s.Routes.getD 1 [])
def ZuJ (t:Zaz)(s:Zax):Bool:=
 inB s.Id 1 4095&&(Zqp t s.Talker&&(Zqp t s.Listener&&((s.Talker !=s.Listener)&&(inB s.Size 84 1542&&inB s.Deadline 1 1099511627776))))
def lenB (s:Zax):Bool:=decide (1<=s.Routes.length)&&decide (s.Routes.length<=2)
def Zbz (t:Zaz)(s:Zax):Bool:=ZuJ t s&&(Zry s&&(lenB s&&(s.Routes.all (Zg4 t s)&&Zuy t s)))
def Zdo (v l h:Int):ZbL N v l h=some (inB v l h):=rfl
def Zjl (v l h:Int):Zdn N v l h=some (inB v l h):=rfl
def ZgH (u:ZaC):Zdp N u=some (if ZdB u then 0 else 320):=by
 unfold Zdp ZdB;simp only[Zdo,Zak];cases inB u.Grid 1 10000<;>cases inB u.Slack 0 1000<;>cases inB u.Proc 0 10000<;>cases inB u.Cap 1542 65536<;>rfl
def ZqK (u:ZaC):Zjo N u=some (ZdB u):=by
 unfold Zjo ZdB;simp only[Zjl,Zak];cases inB u.Grid 1 10000<;>cases inB u.Slack 0 1000<;>cases inB u.Proc 0 10000<;>cases inB u.Cap 1542 65536<;>rfl
def Zvh (g:Good t)(n:Int):inB n 0 (w64 (t.Nodes-1))=Zfp t n:=by
 rw[ZaK (by have:=g.n2;omega) (by have:=g.n12;omega)];unfold inB Zfp
 congr 1
 exact decide_eq_decide.2 ⟨λh=>by omega,λh=>by omega⟩
def Zm6 (g:Good t)(n:Int):ZeR N t n=some (Zqp t n):=by
 unfold ZeR Zqp;simp only[Zdo,Zvh g,Zak];cases h:Zfp t n with
 |false=>rfl
 |true=>simp only[Zaw,ZgD g.st h,Zak,Zk]
def Zop (g:Good t)(n:Int):ZdL N t n=some (Zqp t n):=by
 unfold ZdL Zqp;simp only[Zjl,Zvh g,Zak];cases h:Zfp t n with
 |false=>rfl
 |true=>simp only[Zaw,ZgD g.st h,Zak,Zk]
def Zo1 (g:Good t)(s:Zax)(r:List Int)(hN:200<=N):ZhS N t r s.Talker s.Listener=some (Zg4 t s r):=by
 unfold ZhS Zg4;rw[Zqv r hN,Zak];have hT:=Zbg.2 g;by_cases he:errR t r=0
 ·rw[Zav he,(ZkG.1 he).2];rfl
 rw[Zau he];have hv:ZbS t r=false:=by
  cases h:ZbS t r with
  |false=>rfl
  |true=>exact absurd (ZkG.2 ⟨hT,h⟩) he
 have:(errR t r==0)=false:=by simpa using he
 simp only[this,hv,Bool.false_and]
def ZmN {α:Type}(l:List α)(d:α)(p:α->Bool):allB l.length (λk=>p (l.getD k d))=l.all p:=by
 rw[Zf,Zbr,Zu];constructor
 ·intro h x hx;obtain⟨k,hk,rfl⟩:=List.getElem_of_mem hx;have:=h k hk
  rwa [ZbE hk]at this
 intro h k hk;rw[ZbE hk];exact h _ (List.getElem_mem hk)
def ZyP {s:Zax}:inB (s.Routes.length:Int) 1 2=lenB s:=by
 unfold inB lenB
 congr 1<;>exact decide_eq_decide.2 ⟨λh=>by omega,λh=>by omega⟩
def ZmZ (g:Good t){s:Zax}(hl:lenB s=true)(hN:200<=N):ZeP N s t=some (s.Routes.all (Zg4 t s)):=by
 simp only[lenB,Ze,Zas]at hl;unfold ZeP;have:=Zbm (n:=s.Routes.length) (p:=λk=>Zg4 t s (s.Routes.getD k [])) (body:=λx:Int=>Zez N s t x) (bad:=.inr false) (fin:=.inl ()) (λk hk=>by
  unfold Zez;rw[Zav (by simp;omega),ZbH hk,Zak,ZbE hk,Zo1 g s _ hN,Zak,ZaO (by omega)];cases Zg4 t s s.Routes[k]<;>rfl) (by unfold Zez;rw[Zau (by simp)]) (N:=N) (by omega)
 rw[this,ZmN s.Routes [] (Zg4 t s)];cases s.Routes.all (Zg4 t s)<;>rfl
def ZiB {s:Zax}(h:s.Routes.all (Zg4 t s)=true){k:Nat}(hk:k<s.Routes.length):ZbS t (s.Routes.getD k [])=true/\nd t (s.Routes.getD k []) 0=s.Talker/\nd t (s.Routes.getD k []) (s.Routes.getD k []).length=s.Listener:=by
 have:=List.all_eq_true.1 h _ (List.getElem_mem hk);rw[ZbE hk];simpa only[Zg4,Ze,beq_iff_eq]using this
def ZmX (g:Good t){s:Zax}(hl:lenB s=true)(hr:s.Routes.all (Zg4 t s)=true)(hN:200<=N):ZeO N s t=some (Zuy t s):=by
 simp only[lenB,Ze,Zas]at hl;unfold ZeO Zuy;by_cases h2:s.Routes.length<2
 ·rw[Zav (by simp;omega)];simp[h2]
 rw[Zau (by simp;omega),show(0:Int)=((0:Nat):Int)from rfl,show(1:Int)=((1:Nat):Int)from rfl,ZbH (by omega),ZbH (by omega)];simp only[Zak];have e0:=ZiB hr (k:=0) (by omega);have e1:=ZiB hr (k:=1) (by omega);rw[ZbE (by omega)]at e0 e1;rw[Zpe _ _ hN,Zav (ZkG.2 ⟨Zbg.2 g,e0.1⟩),e1.1,Zak,ZbE (by omega),ZbE (by omega)];simp[h2]
def Zkb (g:Good t)(s:Zax)(hN:200<=N):Zgn N t s=some (Zbz t s):=by
 unfold Zgn Zf4 Zf3 Zf2 Zf1 Zf0;simp only[Zdo,Zak,Zm6 g,ZyP];unfold Zbz ZuJ;cases inB s.Id 1 4095 with
 |false=>rfl
 |true=>
 cases Zqp t s.Talker with
 |false=>rfl
 |true=>
 cases Zqp t s.Listener with
 |false=>rfl
 |true=>
 cases h4:(s.Talker !=s.Listener)with
 |false=>simp
 |true=>
 cases h5:inB s.Size 84 1542 with
 |false=>simp
 |true=>
 cases inB s.Deadline 1 1099511627776 with
 |false=>simp
 |true=>
 have hc:ZeQ N s=some (Zry s):=by
  unfold ZeQ Zry;simp only[Zdo,Zak];by_cases c7:(s.Class==7)=true
  ·rw[Zav c7,Zav c7];cases inB s.Period 1 240<;>simp
  rw[Zau c7,Zau c7];by_cases c6:(s.Class==6)=true
  ·rw[Zav c6,Zav c6];cases s.Period==0 with
   |false=>rfl
   |true=>
    simp only[Zaw];unfold ZkI ZeK;simp only[Zak];simp only[inB,Ze,Zas]at h5;unfold inB;by_cases q1:s.Bucket.Burst≥s.Size
    ·have q2:(1:Int)<=s.Bucket.Burst:=by omega
     by_cases q3:s.Bucket.Burst<=1048576<;>by_cases q4:(1:Int)<=s.Bucket.Rate<;>by_cases q5:s.Bucket.Rate<=2097152<;>simp[q1,q2,q3,q4,q5,ge_iff_le]
    by_cases q2:(1:Int)<=s.Bucket.Burst<;>by_cases q3:s.Bucket.Burst<=1048576<;>by_cases q4:(1:Int)<=s.Bucket.Rate<;>by_cases q5:s.Bucket.Rate<=2097152<;>simp[q1,q2,q3,q4,q5,ge_iff_le]
  rw[Zau c6,Zau c6]
 rw[hc];cases Zry s with
 |false=>simp
 |true=>
 cases hl:lenB s with
 |false=>simp
 |true=>
 rw[ZmZ g hl hN];cases hr:s.Routes.all (Zg4 t s)with
 |false=>simp
 |true=>
 rw[ZmX g hl hr hN];cases Zuy t s<;>simp
end
end Go.Sh

namespace Go.Sh
open Go Go.Eng
def ZuB {κ υ:Type}[DecidableEq κ](l:List (κ×υ))(x y:κ)(v z:υ):Zio (Zeq l x v) y z=if y=x then v else Zio l y z:=by
 induction l with
 |nil=>
  unfold Zio ZtH;simp only[Zeq,ZC,List.find?_nil];by_cases e:x=y
  ·subst e;simp
  simp[e,Ne.symm e]
 |cons p r ih=>
  unfold Zio ZtH at ih⊢;simp only[Zeq];by_cases e:p.1=x
  ·subst e;simp only[Zaw,ZC];by_cases e:p.1=y
   ·subst e;simp
   simp[e,Ne.symm e]
  simp only[e,Zat,ZC];by_cases e2:p.1=y
  ·subst e2;simp[e]
  simp only[e2,decide_false];exact ih
structure ZeZ (u:ZaC):Prop where
 g1:1<=u.Grid
 g2:u.Grid<=10000
 s1:0<=u.Slack
 s2:u.Slack<=1000
 p1:0<=u.Proc
 p2:u.Proc<=10000
def Zbk {u:ZaC}(h:ZdB u=true):ZeZ u:=by
 simp only[ZdB,inB,Ze,Zas]at h;obtain⟨⟨a,b⟩,⟨c,d⟩,⟨e,f⟩,_⟩:=h;exact⟨a,b,c,d,e,f⟩
def ZbC (t:Zaz)(u:ZaC)(h:ZaZ):Int:=h.Open+h.Long+(plk t h.Port).Delay+u.Proc
def hop0 (t:Zaz)(s:Zax)(r:List Int):ZaZ:=⟨at0 r 0,0,0,0,s.Size*(plk t (at0 r 0)).Per⟩
def Znx (u:ZaC)(x:Int):Int:=(x+u.Grid-1)/u.Grid*u.Grid
def hopN (t:Zaz)(u:ZaC)(s:Zax)(h:ZaZ)(p:Int):ZaZ:=
 ⟨p,ZbC t u h-2*u.Slack,ZbC t u h+2*u.Slack,Znx u (ZbC t u h+2*u.Slack),s.Size*(plk t p).Per⟩
def Za2 (t:Zaz)(u:ZaC)(s:Zax)(r:List Int):Nat->ZaZ
 |0=>hop0 t s r
 |k+1=>hopN t u s (Za2 t u s r k) (at0 r (k+1))
def ZsB {u:ZaC}(h:ZeZ u){x:Int}(hx:0<=x):x<=Znx u x/\Znx u x<x+u.Grid/\Znx u x%u.Grid=0:=by
 unfold Znx;have hg:=h.g1;have e:=Int.mul_ediv_add_emod (x+u.Grid-1) u.Grid;have e1:=Int.emod_nonneg (x+u.Grid-1) (show u.Grid≠0 by omega);have e2:=Int.emod_lt_of_pos (x+u.Grid-1) (show 0<u.Grid by omega);rw[Zp]at e;refine⟨by omega,by omega,?_⟩;exact Int.mul_emod_left _ _
section
variable {N:Nat} {t:Zaz} {u:ZaC} {s:Zax}
def Zhc (g:Good t){p:Int}(hp:ZcD t p=true):1<=(plk t p).Per/\(plk t p).Per<=1000/\0<=(plk t p).Delay/\(plk t p).Delay<=10000:=by
 obtain⟨h1,h2⟩:=Zw2 hp;have:=(g.links (Int.tdiv p 2).toNat (by omega)).1;simp only[ZfA,Ze,Zas]at this;exact⟨this.2.2.2.2.1,this.2.2.2.2.2.1,this.2.2.2.2.2.2.1,this.2.2.2.2.2.2.2⟩
def ZkL (s:Zax):Prop:=84<=s.Size/\s.Size<=1542
def ZpR (g:Good t)(hs:ZkL s){p:Int}(hp:ZcD t p=true):84<=s.Size*(plk t p).Per/\s.Size*(plk t p).Per<=1542000:=by
 obtain⟨h1,h2,_,_⟩:=Zhc g hp;obtain⟨a,b⟩:=hs;have c:s.Size*1<=s.Size*(plk t p).Per:=Int.mul_le_mul_of_nonneg_left h1 (by omega);have d:s.Size*(plk t p).Per<=s.Size*1000:=Int.mul_le_mul_of_nonneg_left h2 (by omega);omega
structure HB (t:Zaz) (k:Nat) (h:ZaZ):Prop where
 port:ZcD t h.Port=true
 long1:84<=h.Long
 long2:h.Long<=1542000
 op1:0<=h.Open
 op2:h.Open<=1600000*(k:Int)
def HB.told (g:Good t)(hu:ZeZ u){k:Nat}{h:ZaZ}(hb:HB t k h):h.Open+84<=ZbC t u h/\ZbC t u h<=1600000*(k:Int)+1562000/\h.Open+h.Long<=ZbC t u h:=by
 obtain⟨h1,h2,h3,h4,h5⟩:=hb;obtain⟨_,_,d1,d2⟩:=Zhc g h1;have:=hu.p1;have:=hu.p2;unfold ZbC;omega
def Zwh (k:Nat)(r:List Int):(Za2 t u s r k).Port=at0 r k:=by cases k<;>rfl
def Zwi (k:Nat)(r:List Int):(Za2 t u s r k).Long=s.Size*(plk t (at0 r k)).Per:=by cases k<;>rfl
def Zg6 (g:Good t)(hu:ZeZ u)(hs:ZkL s){r:List Int}(hp:∀k,k<r.length->ZcD t (at0 r k)=true):∀k,k<r.length->HB t k (Za2 t u s r k)
 |0,hk=>by
  have:=ZpR g hs (hp 0 hk);exact⟨hp 0 hk,this.1,this.2,Int.le_refl 0,by simp[Za2,hop0]⟩
 |k+1,hk=>by
  have ih:=Zg6 g hu hs hp k (by omega);have:=ZpR g hs (hp (k+1) hk);have ht:=ih.told g hu;have h0:=ih.op1;have c:=ZsB hu (x:=ZbC t u (Za2 t u s r k)+2*u.Slack) (by have:=hu.s1;omega);have:=hu.s1;have:=hu.s2;have:=hu.g2;refine⟨hp (k+1) hk,?_,?_,?_,?_⟩
  ·show 84<=s.Size*(plk t (at0 r (k+1))).Per;omega
  ·show s.Size*(plk t (at0 r (k+1))).Per<=1542000;omega
  ·show 0<=Znx u (ZbC t u (Za2 t u s r k)+2*u.Slack);omega
  show Znx u (ZbC t u (Za2 t u s r k)+2*u.Slack)<=1600000*((k+1:Nat):Int);omega
def stAt (t:Zaz)(u:ZaC)(s:Zax)(r:List Int):Nat->ZaZ
 |0=>⟨0,0,0,0,0⟩
 |k+1=>Za2 t u s r k
def Zxm {σ:Type}(g:Good t)(hu:ZeZ u)(hs:ZkL s){r:List Int}(h8:r.length<=8)(hp:∀k,k<r.length->ZcD t (at0 r k)=true){k:Nat}(hk:k<r.length){y:σ->ZaZ->Option (σ×Bool)}{b b':σ}
  (hy:y b (Za2 t u s r k)=some (b',true)):ZbY N y s t u r (k:Int) (stAt t u s r k).Port (stAt t u s r k).Early (stAt t u s r k).Late (stAt t u s r k).Open (stAt t u s r k).Long b=
   some (.inl (((k+1:Nat):Int),(Za2 t u s r k).Port,(Za2 t u s r k).Early,(Za2 t u s r k).Late,(Za2 t u s r k).Open,(Za2 t u s r k).Long,b')):=by
 have hL:t.Links.length<=1000:=by have:=g.l24;omega
 have h1:=ZpR g hs (hp k hk);have hb:=Zg6 g hu hs hp k hk;unfold ZbY;rw[Zav (by simp;omega),ZbH hk,Zak];have h2:r[k]=at0 r k:=(Zl4 hk).symm;have key:(if decide ((k:Int)>0)=true then(idx t.Links (w64 (Int.tdiv (stAt t u s r k).Port 2))).bind λe1020=>
    (quoI .i64 (w64 ((w64 ((w64 ((w64 ((w64 ((w64 ((stAt t u s r k).Open+(stAt t u s r k).Long))+e1020.Delay))+u.Proc))+(w64 (2*u.Slack))))+u.Grid))-1)) u.Grid).bind λq1026=>
    (some ((w64 ((w64 ((w64 ((w64 ((stAt t u s r k).Open+(stAt t u s r k).Long))+e1020.Delay))+u.Proc))-(w64 (2*u.Slack)))),(w64 ((w64 ((w64 ((w64 ((stAt t u s r k).Open+(stAt t u s r k).Long))+e1020.Delay))+u.Proc))+(w64 (2*u.Slack)))),(w64 (q1026*u.Grid))))
   else some ((stAt t u s r k).Early,(stAt t u s r k).Late,(stAt t u s r k).Open))=some ((Za2 t u s r k).Early,(Za2 t u s r k).Late,(Za2 t u s r k).Open):=by
  cases k with
  |zero=>rw[Zau (by simp)];rfl
  |succ j=>
   rw[Zav (by simp only[Zas];omega)];have h0:=Zg6 g hu hs hp j (by omega);obtain⟨o1,o2,o3⟩:=h0.told g hu;obtain⟨_,_,d1,d2⟩:=Zhc g h0.port;obtain⟨g1,g2,s1,s2,p1,p2⟩:=hu;have l1:=h0.long1;have l2:=h0.long2;have l3:=h0.op1;have l4:=h0.op2;have hj:(j:Int)<=8:=by omega
   show((idx t.Links (w64 (Int.tdiv (Za2 t u s r j).Port 2))).bind λe1020=>_)=_;rw[ZnS hL h0.port,Zak];have e1:w64 ((Za2 t u s r j).Open+(Za2 t u s r j).Long)=(Za2 t u s r j).Open+(Za2 t u s r j).Long:=ZaK (by omega) (by omega);have e2:w64 ((Za2 t u s r j).Open+(Za2 t u s r j).Long+(plk t (Za2 t u s r j).Port).Delay)=(Za2 t u s r j).Open+(Za2 t u s r j).Long+(plk t (Za2 t u s r j).Port).Delay:=ZaK (by omega) (by omega);have e3:w64 ((Za2 t u s r j).Open+(Za2 t u s r j).Long+(plk t (Za2 t u s r j).Port).Delay+u.Proc)=ZbC t u (Za2 t u s r j):=ZaK (by omega) (by omega);have e4:w64 (2*u.Slack)=2*u.Slack:=ZaK (by omega) (by omega);simp only[stAt,e1,e2,e3,e4];have e5:w64 (ZbC t u (Za2 t u s r j)+2*u.Slack)=ZbC t u (Za2 t u s r j)+2*u.Slack:=ZaK (by omega) (by omega);have e6:w64 (ZbC t u (Za2 t u s r j)-2*u.Slack)=ZbC t u (Za2 t u s r j)-2*u.Slack:=ZaK (by omega) (by omega);have e7:w64 (ZbC t u (Za2 t u s r j)+2*u.Slack+u.Grid)=ZbC t u (Za2 t u s r j)+2*u.Slack+u.Grid:=ZaK (by omega) (by omega);have e8:w64 (ZbC t u (Za2 t u s r j)+2*u.Slack+u.Grid-1)=ZbC t u (Za2 t u s r j)+2*u.Slack+u.Grid-1:=ZaK (by omega) (by omega);rw[e5,e6,e7,e8,Zjv (by omega),Zak];have hn:0<=ZbC t u (Za2 t u s r j)+2*u.Slack+u.Grid-1:=by omega
   rw[Zq hn];have q1:0<=(ZbC t u (Za2 t u s r j)+2*u.Slack+u.Grid-1)/u.Grid:=Int.ediv_nonneg hn (by omega);have q2:(ZbC t u (Za2 t u s r j)+2*u.Slack+u.Grid-1)/u.Grid<=ZbC t u (Za2 t u s r j)+2*u.Slack+u.Grid-1:=Int.ediv_le_self _ hn;have e9:IntKind.i64.wrap ((ZbC t u (Za2 t u s r j)+2*u.Slack+u.Grid-1)/u.Grid)=(ZbC t u (Za2 t u s r j)+2*u.Slack+u.Grid-1)/u.Grid:=ZaK (by omega) (by omega);have c:=ZsB ⟨g1,g2,s1,s2,p1,p2⟩ (x:=ZbC t u (Za2 t u s r j)+2*u.Slack) (by omega);have e10:w64 ((ZbC t u (Za2 t u s r j)+2*u.Slack+u.Grid-1)/u.Grid*u.Grid)=Znx u (ZbC t u (Za2 t u s r j)+2*u.Slack):=ZaK (by unfold Znx at c;omega) (by unfold Znx at c;omega);rw[e9,e10];rfl
 rw[key,Zak,h2,ZnS hL (hp k hk),Zak];have e11:w64 (s.Size*(plk t (at0 r k)).Per)=s.Size*(plk t (at0 r k)).Per:=ZaK (by omega) (by omega);have e12:(ZaZ.mk (at0 r k) (Za2 t u s r k).Early (Za2 t u s r k).Late (Za2 t u s r k).Open (s.Size*(plk t (at0 r k)).Per))=Za2 t u s r k:=by
  cases k<;>rfl
 rw[e11];simp only;rw[e12,hy,Zak,ZaO (by omega)];simp only[Zi,Zg,Zat,Zwh,Zwi]
def Zvj {σ:Type}(g:Good t)(hu:ZeZ u)(hs:ZkL s){r:List Int}(hr:ZbS t r=true){y:σ->ZaZ->Option (σ×Bool)}(G:Nat->σ)(hy:∀k,k<r.length->y (G k) (Za2 t u s r k)=some (G (k+1),true)){kk:Int}
  (hk:idx s.Routes kk=some r) (hN:200<=N):ZdH N y s kk t u (G 0)=some (G r.length):=by
 obtain⟨h1,h8,hp⟩:=Zch hr;unfold ZdH;rw[hk,Zak];have key:∀(M m N k:Nat),r.length-k=m->k<=r.length->m<N->ZaT (λx:Int×Int×Int×Int×Int×Int×σ=>ZbY M y s t u r x.1 x.2.1 x.2.2.1 x.2.2.2.1 x.2.2.2.2.1 x.2.2.2.2.2.1 x.2.2.2.2.2.2) N ((k:Int),(stAt t u s r k).Port,(stAt t u s r k).Early,(stAt t u s r k).Late,(stAt t u s r k).Open,(stAt t u s r k).Long,G k)=some (.inl (G r.length)):=by
  intro M m;induction m with
  |zero=>
   intro N k e1 e2 e3;obtain rfl:k=r.length:=by omega
   cases N with
   |zero=>omega
   |succ N=>
    rw[Zbh (r:=(.inl (G r.length)))];show ZbY _ y s t u r ((r.length:Nat):Int) _ _ _ _ _ _=_;unfold ZbY;rw[Zau (by simp)]
  |succ m ih=>
   intro N k e1 e2 e3;cases N with
   |zero=>omega
   |succ N=>
    have h0:=Zxm (N:=M) g hu hs h8 hp (k:=k) (by omega) (hy k (by omega));rw[ZbX (y:=(((k+1:Nat):Int),(Za2 t u s r k).Port,(Za2 t u s r k).Early,(Za2 t u s r k).Late,(Za2 t u s r k).Open,(Za2 t u s r k).Long,G (k+1))) h0];exact ih N (k+1) (by omega) (by omega) (by omega)
 have:=key N r.length N 0 (by omega) (by omega) (by omega);rw[show((0:Nat):Int)=0 from rfl]at this;have e:(ZaT (λx:Int×Int×Int×Int×Int×Int×σ=>ZbY N y s t u r x.1 x.2.1 x.2.2.1 x.2.2.2.1 x.2.2.2.2.1 x.2.2.2.2.2.1 x.2.2.2.2.2.2) N (0,0,0,0,0,0,G 0))=some (.inl (G r.length)):=this;rw[e];rfl
def Zma (k:Int)(hN:200<=N):Zix N t u s k=some (if Zef t then(if ZdB u then(if Zbz t s then(if s.Class=7/\0<=k/\k<s.Routes.length then 0 else 2)else 321)else 320)else 260):=by
 unfold Zix;rw[ZgN (by omega),Zak];cases hT:Zef t with
 |false=>rfl
 |true=>
  simp only[Zaw,Zaq,Zg,Zat];rw[ZgH,Zak];cases hU:ZdB u with
  |false=>rfl
  |true=>
   simp only[Zaw,Zaq,Zg,Zat];rw[Zkb (Zbg.1 hT) s hN,Zak];cases hS:Zbz t s with
   |false=>rfl
   |true=>
    rw[Zau (by simp:¬(!true)=true),Zav (rfl:true=true)];have hl:1<=s.Routes.length/\s.Routes.length<=2:=by
     simp only[Zbz,lenB,Ze,Zas]at hS;exact hS.2.2.1
    rw[ZaK (by omega) (by omega),Zdo];have hb:inB k 0 ((s.Routes.length:Int)-1)=decide (0<=k/\k<(s.Routes.length:Int)):=by
     rw[Zf];simp only[inB,Ze,Zas];omega
    rw[hb];by_cases hc:s.Class=7
    ·have h7:(s.Class !=7)=false:=by simp[hc]
     rw[h7];by_cases hk:0<=k/\k<(s.Routes.length:Int)
     ·simp only[Zar hk,hc,hk,and_self,Zaw];rfl
     simp only[decide_eq_false hk,hc,hk,and_false,Zat];rfl
    have h7:(s.Class !=7)=true:=by simp[hc]
    rw[h7];simp only[hc,false_and,Zat,Zaw];rfl
def Zfi (s:Zax)(k:Int):List Int:=s.Routes.getD k.toNat []
def Zei (h:Zbz t s=true):ZkL s:=by
 simp only[Zbz,ZuJ,inB,Ze,Zas]at h;exact h.1.2.2.2.2.1
def Zlf (h:Zbz t s=true):(1<=s.Routes.length/\s.Routes.length<=2)/\s.Routes.all (Zg4 t s)=true:=by
 simp only[Zbz,lenB,Ze,Zas]at h;exact⟨h.2.2.1,h.2.2.2.1⟩
def Zta (h:Zbz t s=true){k:Int}(h0:0<=k)(hk:k<s.Routes.length):idx s.Routes k=some (Zfi s k)/\ZbS t (Zfi s k)=true:=by
 refine⟨Zb0 [] h0 hk,(ZiB (Zlf h).2 (k:=k.toNat) (by omega)).1⟩
def Ze0 (hT:Zef t=true)(hU:ZdB u=true)(hS:Zbz t s=true){k:Int}(hc:s.Class=7)(h0:0<=k)(hk:k<s.Routes.length)(hN:200<=N):
  ZfL N t u s k=some ((List.range (Zfi s k).length).map (Za2 t u s (Zfi s k)),0):=by
 obtain⟨e1,e2⟩:=Zta hS h0 hk;have h8:=(Zch e2).2.1;unfold ZfL;rw[Zma k hN,hT,hU,hS,Zav rfl,Zav rfl,Zav rfl,Zav ⟨hc,h0,hk⟩,Zak,Zau (by decide)];show(ZdH N _ s k t u []).bind _=_;have:=Zvj (N:=N) (Zbg.1 hT) (Zbk hU) (Zei hS) e2 (y:=λ(s:(List ZaZ)) (x12:ZaZ)=>Zea (λv:(List ZaZ)=>ZcU N v x12) s) (λj=>(List.range j).map (Za2 t u s (Zfi s k))) (λj hj=>by
  show Zea (λv=>ZcU N v (Za2 t u s (Zfi s k) j)) _=_;unfold Zea ZcU;simp only;rw[Zh9 (by simp;omega) (by omega),Zaa,Z2];rfl) e1 hN
 simp only[List.range_zero,Z4]at this;rw[this];rfl
def Zn8 (hT:Zef t=true)(hU:ZdB u=true)(hS:Zbz t s=true){k:Int}(hc:s.Class=7)(h0:0<=k)(hk:k<s.Routes.length)(hN:200<=N):
  Zi3 N t u s k=some (ZbC t u (Za2 t u s (Zfi s k) ((Zfi s k).length-1)),0):=by
 obtain⟨e1,e2⟩:=Zta hS h0 hk;obtain⟨h1,h8,hp⟩:=Zch e2;have g:=Zbg.1 hT;have hL:t.Links.length<=1000:=by have:=g.l24;omega
 unfold Zi3;rw[Zma k hN,hT,hU,hS,Zav rfl,Zav rfl,Zav rfl,Zav ⟨hc,h0,hk⟩,Zak,Zau (by decide)];show(ZdH N _ s k t u 0).bind _=_;have:=Zvj (N:=N) g (Zbk hU) (Zei hS) e2 (y:=λ(s:Int) (x21:ZaZ)=>Zea (λv:Int=>ZcT N t u v x21) s) (λj=>if j=0 then 0 else ZbC t u (Za2 t u s (Zfi s k) (j-1))) (λj hj=>by
  show Zea (λv=>ZcT N t u v (Za2 t u s (Zfi s k) j)) _=_;unfold Zea ZcT;have hb:=Zg6 g (Zbk hU) (Zei hS) hp j hj;obtain⟨o1,o2,o3⟩:=hb.told g (Zbk hU);obtain⟨_,_,d1,d2⟩:=Zhc g hb.port;have l1:=hb.long1;have l2:=hb.long2;have l3:=hb.op1;have l4:=hb.op2;have q:=(Zbk hU).p1;have q':=(Zbk hU).p2;simp only;rw[ZnS hL hb.port,Zak,ZaK (x:=(Za2 t u s (Zfi s k) j).Open+(Za2 t u s (Zfi s k) j).Long) (by omega) (by omega),ZaK (x:=(Za2 t u s (Zfi s k) j).Open+(Za2 t u s (Zfi s k) j).Long+_) (by omega) (by omega)];rw[show w64 ((Za2 t u s (Zfi s k) j).Open+(Za2 t u s (Zfi s k) j).Long+(plk t (Za2 t u s (Zfi s k) j).Port).Delay+u.Proc)=ZbC t u (Za2 t u s (Zfi s k) j)from ZaK (by omega) (by omega)];rw[Zau (Nat.succ_ne_zero j)];rfl) e1 hN
 rw[Zav rfl]at this;rw[this,Zak,Zau (by omega)]
def dS:Zax:=⟨0,0,0,0,0,0,⟨0,0⟩,0,[]⟩
def idAt (l:List Zax)(k:Nat):Int:=(l.getD k dS).Id
def Zsm (l:List Zax)(k:Nat):Bool:=!((List.range k).any λj=>idAt l j==idAt l k)
def allR (t:Zaz)(l:List Zax):Int:=if Zef t then(if l.length<=12 then(if l.all (Zbz t)then(if allB l.length (Zsm l)then 0 else 322)else 321)else 3)else 260
def ZhU (l:List Zax)(hN:200<=N):Zeh N t l=some (allR t l):=by
 unfold Zeh allR;rw[ZgN (by omega),Zak];cases hT:Zef t with
 |false=>rfl
 |true=>
  have g:=Zbg.1 hT;simp only[Zaw,Zaq,Zg,Zat];by_cases h0:l.length<=12
  ·rw[Zau (by simp;omega),Zav h0];have:=Zbm (n:=l.length) (p:=λk=>Zbz t (l.getD k dS)) (body:=λx:Int=>Zec N t l x) (bad:=.inr 321) (fin:=.inl ()) (λk hk=>by
    unfold Zec;rw[Zav (by simp;omega),ZbH hk,Zak,ZbE hk,Zkb g _ hN,Zak,ZaO (by omega)];cases Zbz t l[k]<;>rfl) (by unfold Zec;rw[Zau (by simp)]) (N:=N) (by omega)
   rw[this,ZmN l dS (Zbz t)];cases l.all (Zbz t)with
   |false=>rfl
   |true=>
    simp only[Zaw,Zak];have:=(ZjG (n:=l.length) (p:=Zsm l) (f:=λ(b:List (Int×Bool)) k=>Zeq b (idAt l k) true) (body:=λx:Int×(List (Int×Bool))=>ZbR N l x.1 x.2) (bad:=.inr 322) (fin:=λ_=>.inl ())
     (λk b=>∀x,Zio b x false=(List.range k).any λj=>idAt l j==x)
     (λk b hk hb=>by
      show ZbR N l (k:Int) b=_;unfold ZbR;rw[Zav (by simp;omega),ZbH hk,Zak];have hid:l[k].Id=idAt l k:=by unfold idAt;rw[ZbE hk]
      rw[hid,hb,ZaO (by omega)];unfold Zsm;cases (List.range k).any λj=>idAt l j==idAt l k<;>rfl)
     (λk b hk hb _ x=>by
      rw[ZuB,hb,Zaa,List.any_append];by_cases e:x=idAt l k
      ·subst e;simp
      have:(idAt l k==x)=false:=by simpa using Ne.symm e
      simp[e,this])
     (λb hb=>by show ZbR N l (l.length:Int) b=_;unfold ZbR;rw[Zau (by simp)]) (N:=N) (by omega) (b0:=[]) (λx=>rfl)).1
    rw[this];cases allB l.length (Zsm l)<;>rfl
  rw[Zav (by simp;omega),Zau h0]
end
end Go.Sh

namespace Go.Sh
open Go Go.Eng
def PF (p:Int->Bool)(k:Nat):List Int:=((List.range k).map (λ(n:Nat)=>(n:Int))).filter p
def ZxS (p:Int->Bool)(k:Nat):PF p (k+1)=if p (k:Int)=true then PF p k++[(k:Int)]else PF p k:=by
 unfold PF;rw[Zaa,Z2,List.filter_append];by_cases h:p (k:Int)=true
 ·rw[Zav h];simp[h]
 rw[Zau h];simp[h]
def Zzq (p:Int->Bool)(k:Nat):(PF p k).length<=k:=by
 induction k with
 |zero=>simp[PF]
 |succ k ih=>
  rw[ZxS];split
  ·rw[ZV,Z0];omega
  omega
def ZMo {p:Int->Bool}{k:Nat}{x:Int}:x∈PF p k↔0<=x/\x<k/\p x=true:=by
 unfold PF;simp only[List.mem_filter,List.mem_map,Z5];constructor
 ·rintro⟨⟨n,hn,rfl⟩,hp⟩;exact⟨by omega,by omega,hp⟩
 rintro⟨h0,h1,hp⟩;exact⟨⟨x.toNat,by omega,by omega⟩,hp⟩
section
variable {N:Nat} {t:Zaz}
def ZpU {β ρ:Type}{n:Nat}{body:Int×β->Option ((Int×β)⊕ρ)}{fin:β->ρ}(I:Nat->β->Prop)
  (h0:∀k b,k<n->I k b->∃b',body ((k:Int),b)=some (.inl (((k+1:Nat):Int),b'))/\I (k+1) b') (h4:∀b,I n b->body ((n:Int),b)=some (.inr (fin b))):
  ∀(m N k:Nat) (b:β),n-k=m->k<=n->m<N->I k b->∃b',ZaT body N ((k:Int),b)=some (fin b')/\I n b':=by
 intro m;induction m with
 |zero=>
  intro N k b h1 h2 h3 hb;obtain rfl:k=n:=by omega
  cases N with
  |zero=>omega
  |succ N=>exact⟨b,by rw[Zbh (h4 b hb)],hb⟩
 |succ m ih=>
  intro N k b h1 h2 h3 hb;cases N with
  |zero=>omega
  |succ N=>
   obtain⟨b',s1,s2⟩:=h0 k b (by omega) hb;obtain⟨b'',i1,i2⟩:=ih N (k+1) b' (by omega) (by omega) (by omega) s2;exact⟨b'',by rw[ZbX s1,i1],i2⟩
end
end Go.Sh
namespace Go.Sh
open Go Go.Eng
def Byte (v:Int):Prop:=0<=v/\v<=255
def ZfF {v:Int}(h:InK .u8 v):Byte v:=by
 exact h.u8
section
variable {N:Nat}
def ZgY {l:List Int}(hl:∀x∈l,Byte x)(h1:l.length<=maxLen){i:Int}(h0:0<=i):∃v,Zfk N l i=some v/\Byte v:=by
 unfold Zfk;by_cases h:i<(l.length:Int)
 ·rw[Zav (by simpa using h),Zrn h0 (by omega),Zak];have hb:=hl _ (List.getElem_mem (show i.toNat<l.length by omega));refine⟨_,rfl,?_⟩;obtain⟨b1,b2⟩:=hb;rw[ZaK (by omega) (by omega)];exact⟨b1,b2⟩
 rw[Zau (by simpa using h)];exact⟨0,rfl,by omega,by omega⟩
def Zgp {v b:Int}(hv:0<=v)(hb:0<b):∃m,remI v b=some m/\0<=m/\m<b:=by
 refine⟨v.tmod b,ZcO (by omega),?_⟩;rw[Zr hv];exact⟨Int.emod_nonneg _ (by omega),Int.emod_lt_of_pos _ hb⟩
def Zzs {d:ZbQ}(hp:∀x∈d.Pers,Byte x)(h5:d.Pers.length<=maxLen)(hd:∀x∈d.Delays,Byte x)(h6:d.Delays.length<=maxLen){t:Zaz}(hS:(t.Station.length:Int)=t.Nodes)(hL:t.Links.length<=24)(a b:Int)(hN:200<=N):
  ∃l:ZaW,l.A=a/\l.B=b/\(Zfp t a=true->Zfp t b=true->a≠b->(stB t a&&stB t b)=false->ZfA t l=true)∧
   ZbB N d t a b=some (if t.Links.length<24/\ZfA t l=true/\(allB t.Links.length λk=>!ZhD (lk t k) a b)=true then⟨t.Nodes,t.Station,t.Links++[l]⟩else t):=by
 obtain⟨v1,p1,b1⟩:=ZgY (N:=N) hp h5 (i:=(t.Links.length:Int)) (by omega);obtain⟨v2,p2,b2⟩:=ZgY (N:=N) hd h6 (i:=(t.Links.length:Int)) (by omega);obtain⟨b11,b12⟩:=b1;obtain⟨b21,b22⟩:=b2;have e1:Int.tmod v1 20=v1%20:=Zr b11;have e2:Int.tmod v2 50=v2%50:=Zr b21;have e3:w64 (1+Int.tmod v1 20)=1+v1%20:=by rw[e1,ZaK (by omega) (by omega)]
 refine⟨⟨a,b,1+v1%20,v2%50⟩,rfl,rfl,λh1 h2 h3 h4=>?_,?_⟩
 ·simp only[ZfA,h1,h2,h4,Zk,Bool.not_false,Ze,Zas];refine⟨by simp[h3],by omega,by omega,by omega,by omega⟩
 unfold ZbB;rw[p1,Zak,p2,Zak,e3,e2];by_cases h0:t.Links.length<24
 ·have:(((t.Links.length:Nat):Int)==24)=false:=by simp;omega
  rw[this];simp only[Zg,Zat];rw[Zmp hS,Zak,Zak];cases h7:ZfA t ⟨a,b,1+v1%20,v2%50⟩with
  |false=>simp
  |true=>
   simp only[Zi,Zg,Zat];have:=Zbm (n:=t.Links.length) (p:=λk=>!ZhD (lk t k) a b) (body:=λx:Int=>ZdO N t a b x) (bad:=.inr t) (fin:=.inl ()) (λk hk=>by
    unfold ZdO;rw[Zav (by simp;omega),ZtN hk,Zak,ZlA,Zak,ZaO (by omega)];cases ZhD (lk t k) a b<;>rfl) (by unfold ZdO;rw[Zau (by simp)]) (N:=N) (by omega)
   rw[this];cases hj:allB t.Links.length (λk=>!ZhD (lk t k) a b)with
   |false=>simp
   |true=>
    simp only[Zaw,Zak];rw[Zh9 (by simp;omega) (by omega)];simp[h0]
 have:(((t.Links.length:Nat):Int)==24)=true:=by simp;omega
 rw[this];simp[h0]
end
structure Mk (b n:Nat) (t:Zaz):Prop where
 nodes:t.Nodes=n
 st:t.Station=(List.range n).map (λk=>decide (b<=k))
 l24:t.Links.length<=24
 links:∀k,k<t.Links.length->ZfA t (lk t k)=true/\nojB t k=true
 ends:∀k,k<t.Links.length->(lk t k).B<b
def cntA (t:Zaz)(x:Int):Nat:=t.Links.countP (λl=>l.A==x)
section
variable {N b n:Nat} {t:Zaz}
def Mk.stl (h:Mk b n t):(t.Station.length:Int)=t.Nodes:=by rw[h.st,h.nodes];simp
def Mk.stB (h:Mk b n t){x:Int}(h0:0<=x)(hx:x<n):stB t x=decide ((b:Int)<=x):=by
 unfold Go.Sh.stB;rw[h.st,ZF,ZN,List.getElem?_range (by omega)];simp only[Zam,Zal];rw[Zf,decide_eq_true_iff,decide_eq_true_iff];omega
def Mk.node (h:Mk b n t){x:Int}:Zfp t x=true↔0<=x/\x<n:=by rw[ZhC,h.nodes]
def Zer {l:ZaW}{k:Nat}:lk ⟨t.Nodes,t.Station,t.Links++[l]⟩ k=if k<t.Links.length then lk t k else if k=t.Links.length then l else dL:=by
 unfold lk;simp only[ZF];by_cases h:k<t.Links.length
 ·rw[Zav h,ZG h]
 rw[Zau h,ZH (by omega)];by_cases e:k=t.Links.length
 ·subst e;simp
 rw[Zau e];have:k-t.Links.length≠0:=by omega
 cases hh:k-t.Links.length with
 |zero=>omega
 |succ m=>simp
def ZtO {l x:ZaW}:ZfA ⟨t.Nodes,t.Station,t.Links++[l]⟩ x=ZfA t x:=rfl
def Mk.add (h:Mk b n t){l:ZaW}(h1:t.Links.length<24)(hl:ZfA t l=true)(hj:(allB t.Links.length λk=>!ZhD (lk t k) l.A l.B)=true)(hb:l.B<b):Mk b n ⟨t.Nodes,t.Station,t.Links++[l]⟩ where
 nodes:=h.nodes
 st:=h.st
 l24:=by simp;omega
 links:=λk hk=>by
  simp only[ZV,Z0]at hk;rw[ZtO];unfold nojB;by_cases h0:k<t.Links.length
  ·obtain⟨q1,q2⟩:=h.links k h0;rw[Zer,Zav h0];refine⟨q1,?_⟩;rw[←q2];unfold nojB;apply Zk6;intro j hj;rw[Zer,Zav (by omega)]
  obtain rfl:k=t.Links.length:=by omega
  rw[Zer,Zau h0,Zav rfl];refine⟨hl,?_⟩;rw[←hj];apply Zk6;intro j hj;rw[Zer,Zav hj]
 ends:=λk hk=>by
  simp only[ZV,Z0]at hk;by_cases h0:k<t.Links.length
  ·rw[Zer,Zav h0];exact h.ends k h0
  rw[Zer,Zau h0,Zav (by omega)];exact hb
end
end Go.Sh

namespace Go.Sh
open Go Go.Eng
structure DOK (d:ZbQ):Prop where
 br:Byte d.Bridges
 sn:Byte d.Stations
 ch:∀x∈d.Chords,Byte x
 ho:∀x∈d.Homes,Byte x
 pe:∀x∈d.Pers,Byte x
 de:∀x∈d.Delays,Byte x
 chl:d.Chords.length<=maxLen
 hol:d.Homes.length<=maxLen
 pel:d.Pers.length<=maxLen
 del:d.Delays.length<=maxLen
def DOK.of {d:ZbQ}(h:ZlJ d):DOK d:=by
 obtain⟨h1,h2,⟨h3,h4⟩,⟨h5,h6⟩,⟨h7,h8⟩,h9,h0⟩:=h;exact⟨ZfF h1,ZfF h2,λx hx=>ZfF (h4 x hx),λx hx=>ZfF (h6 x hx),λx hx=>ZfF (h8 x hx),λx hx=>ZfF (h0 x hx),h3,h5,h7,h9⟩
def brs (d:ZbQ):Nat:=1+(d.Bridges%6).toNat
def sts (d:ZbQ):Nat:=2+(d.Stations%5).toNat
section
variable {N:Nat} {d:ZbQ}
def Zqf (h:DOK d):w64 (1+w64 (Int.tmod d.Bridges 6))=((brs d:Nat):Int)/\1<=brs d/\brs d<=6:=by
 obtain⟨b1,b2⟩:=h.br;rw[Zr b1,ZaK (x:=d.Bridges%6) (by omega) (by omega),ZaK (by omega) (by omega)];unfold brs;omega
def ZoZ (h:DOK d):w64 (2+w64 (Int.tmod d.Stations 5))=((sts d:Nat):Int)/\2<=sts d/\sts d<=6:=by
 obtain⟨b1,b2⟩:=h.sn;rw[Zr b1,ZaK (x:=d.Stations%5) (by omega) (by omega),ZaK (by omega) (by omega)];unfold sts;omega
def Mk.with (hd:DOK d){b n:Nat}{t:Zaz}(h:Mk b n t){x y:Int}(hx:0<=x/\x<n)(hy:0<=y/\y<b)(h2:b<=n)(hN:200<=N):
  ∃t',ZbB N d t x y=some t'/\Mk b n t'/\(t'=t∨∃l:ZaW,l.A=x/\l.B=y/\t'=⟨t.Nodes,t.Station,t.Links++[l]⟩)∧
   (x≠y->t.Links.length<24->(∀k,k<t.Links.length->ZhD (lk t k) x y=false)->∃l:ZaW,l.A=x/\l.B=y/\t'=⟨t.Nodes,t.Station,t.Links++[l]⟩):=by
 obtain⟨l,hA,hB,hl,e⟩:=Zzs (N:=N) hd.pe hd.pel hd.de hd.del h.stl h.l24 x y hN;refine⟨_,e,?_,?_,?_⟩
 ·split
  ·rename_i hc;exact h.add hc.1 hc.2.1 (by rw[hA,hB];exact hc.2.2) (by rw[hB];exact hy.2)
  exact h
 ·split
  ·exact .inr ⟨l,hA,hB,rfl⟩
  exact .inl rfl
 intro h0 h1 hj;refine⟨l,hA,hB,Zav ⟨h1,hl (h.node.2 hx) (h.node.2 ⟨hy.1,by omega⟩) h0 ?_,Zbr.2 λk hk=>by rw[hj k hk];rfl⟩⟩;rw[h.stB hy.1 (by omega),decide_eq_false (by omega),Bool.and_false]
def ZmK {t:Zaz}{l:ZaW}(x:Int):cntA ⟨t.Nodes,t.Station,t.Links++[l]⟩ x=cntA t x+(if l.A=x then 1 else 0):=by
 unfold cntA;simp only[List.countP_append,List.countP_cons,List.countP_nil];by_cases h:l.A=x<;>simp[h]
structure Row (b n c h:Nat) (t:Zaz):Prop extends Mk b n t where
 len:c+h<=t.Links.length
 chain:∀j,j<c->(lk t j).A=j/\(lk t j).B=((j+1:Nat):Int)
 home:∀j,j<h->(lk t (c+j)).A=((b+j:Nat):Int)
def Row.keep {b n c h:Nat}{t:Zaz}(r:Row b n c h t){l:ZaW}(hm:Mk b n ⟨t.Nodes,t.Station,t.Links++[l]⟩):Row b n c h ⟨t.Nodes,t.Station,t.Links++[l]⟩:=
 {hm with
  len:=by have:=r.len;simp;omega
  chain:=λj hj=>by rw[Zer,Zav (by have:=r.len;omega)];exact r.chain j hj
  home:=λj hj=>by rw[Zer,Zav (by have:=r.len;omega)];exact r.home j hj}
abbrev tp (x:Int×List Bool×List ZaW):Zaz:=⟨x.1,x.2.1,x.2.2⟩
def ZzD (hd:DOK d)(hN:200<=N):ZaT (λx:Int×(List Bool)=>Zca N d x.1 x.2) N (0,[])=some ((List.range (brs d+sts d)).map (λk=>decide (brs d<=k))):=by
 obtain⟨b1,b2,b3⟩:=Zqf hd;obtain⟨s1,s2,s3⟩:=ZoZ hd;have:=Zd7 (n:=brs d+sts d) (f:=λ_ k=>(List.range (k+1)).map (λk=>decide (brs d<=k))) (body:=λx:Int×(List Bool)=>Zca N d x.1 x.2) (fin:=λb=>b) (λk b=>b=(List.range k).map (λk=>decide (brs d<=k)))
  (λk b hk hb=>by
   show Zca N d k b=_;unfold Zca;subst hb;rw[b1,s1,ZaK (show -9223372036854775808<=((brs d:Nat):Int)+((sts d:Nat):Int)by omega) (by omega),Zav (by simp;omega),Zh9 (by simp;omega) (by omega),Zak,ZaO (by omega),Zaa,Z2];have:decide ((k:Int)≥((brs d:Nat):Int))=decide (brs d<=k):=by rw[Zf,decide_eq_true_iff,decide_eq_true_iff];omega
   rw[this];rfl)
  (λk b hk hb=>rfl)
  (λb hb=>by
   show Zca N d ((brs d+sts d:Nat):Int) b=_;unfold Zca;rw[b1,s1,ZaK (show -9223372036854775808<=((brs d:Nat):Int)+((sts d:Nat):Int)by omega) (by omega),Zau (by simp)]) (N:=N) (by omega) (b0:=[]) (by simp)
 rw[this.1,this.2]
def ZzC (hd:DOK d)(hN:200<=N){x:Int×List Bool×List ZaW}(hx:Mk (brs d) (brs d+sts d) (tp x))(h1:x.2.2=[]):
  ∃x',ZaT (λx:Int×Int×(List Bool)×(List ZaW)=>Zb9 N d x.1 x.2.1 x.2.2.1 x.2.2.2) N (1,x)=some x'/\Row (brs d) (brs d+sts d) (brs d-1) 0 (tp x')/\x'.2.2.length=brs d-1/\∀s,s<sts d->cntA (tp x') ((brs d+s:Nat):Int)=0:=by
 obtain⟨b1,b2,b3⟩:=Zqf hd;obtain⟨s1,s2,s3⟩:=ZoZ hd;have:=ZpU (n:=brs d) (fin:=λb:Int×List Bool×List ZaW=>b) (body:=λx:Int×Int×(List Bool)×(List ZaW)=>Zb9 N d x.1 x.2.1 x.2.2.1 x.2.2.2)
  (λk b=>1<=k/\Row (brs d) (brs d+sts d) (k-1) 0 (tp b)/\b.2.2.length=k-1/\∀s,s<sts d->cntA (tp b) ((brs d+s:Nat):Int)=0)
  (λk b hk ⟨h3,hr,hl,hc⟩=>by
   have h2:(tp b).Links.length=k-1:=hl;obtain⟨t',w1,w2,_,w4⟩:=hr.toMk.with (N:=N) hd (x:=(k:Int)-1) (y:=(k:Int)) (by omega) (by omega) (by omega) hN;obtain⟨l,lA,lB,le⟩:=w4 (by omega) (by omega) (λj hj=>by
    have h0:j<k-1:=by omega
    obtain⟨c1,c2⟩:=hr.chain j h0;unfold ZhD;rw[c1,c2,beq_false_of_ne (show((j:Nat):Int)≠(k:Int)-1 by omega),beq_false_of_ne (show((j:Nat):Int)≠(k:Int)by omega)];rfl)
   subst le;refine⟨(b.1,b.2.1,b.2.2++[l]),?_,by omega,?_,?_,?_⟩
   ·show Zb9 N d k b.1 b.2.1 b.2.2=_;unfold Zb9;rw[b1,Zav (by simp;omega),ZaK (show -9223372036854775808<=(k:Int)-1 by omega) (by omega),w1,Zak,ZaO (by omega)]
   ·refine {w2 with len:=by simp;omega,chain:=λj hj=>?_,home:=λj hj=>by omega};show(lk ⟨(tp b).Nodes,(tp b).Station,(tp b).Links++[l]⟩ j).A=_/\_;rw[Zer];by_cases h0:j<(tp b).Links.length
    ·rw[Zav h0];exact hr.chain j (by omega)
    rw[Zau h0,Zav (by omega),lA,lB];omega
   ·simp;omega
   intro s hs;have:=ZmK (t:=tp b) (l:=l) ((brs d+s:Nat):Int);rw[show cntA (tp (b.1,b.2.1,b.2.2++[l])) _=_ from this,hc s hs,Zau (by omega)])
  (λb ⟨_,hr,_⟩=>by
   show Zb9 N d ((brs d:Nat):Int) b.1 b.2.1 b.2.2=_;unfold Zb9;rw[b1,Zau (by simp)]) (brs d-1) N 1 x (by omega) (by omega) (by omega) ⟨by omega,{hx with len:=by simp,chain:=λj hj=>by omega,home:=λj hj=>by omega},by rw[h1];rfl,λs hs=>by unfold cntA;show List.countP _ x.2.2=0;rw[h1];rfl⟩
 obtain⟨x',e1,_,e2,e3,e4⟩:=this;exact⟨x',e1,e2,e3,e4⟩
def ZzB (hd:DOK d)(hN:200<=N){x:Int×List Bool×List ZaW}(hx:Row (brs d) (brs d+sts d) (brs d-1) 0 (tp x))(hl:x.2.2.length=brs d-1)(hc:∀s,s<sts d->cntA (tp x) ((brs d+s:Nat):Int)=0):
  ∃x',ZaT (λx:Int×Int×(List Bool)×(List ZaW)=>Zb8 N d x.1 x.2.1 x.2.2.1 x.2.2.2) N (0,x)=some x'/\Row (brs d) (brs d+sts d) (brs d-1) (sts d) (tp x')/\∀s,s<sts d->cntA (tp x') ((brs d+s:Nat):Int)=1:=by
 obtain⟨b1,b2,b3⟩:=Zqf hd;obtain⟨s1,s2,s3⟩:=ZoZ hd;have:=ZpU (n:=sts d) (fin:=λb:Int×List Bool×List ZaW=>b) (body:=λx:Int×Int×(List Bool)×(List ZaW)=>Zb8 N d x.1 x.2.1 x.2.2.1 x.2.2.2)
  (λk b=>Row (brs d) (brs d+sts d) (brs d-1) k (tp b)/\b.2.2.length=brs d-1+k/\∀s,s<sts d->cntA (tp b) ((brs d+s:Nat):Int)=if s<k then 1 else 0)
  (λk b hk ⟨hr,hl,hc⟩=>by
   have h1:(tp b).Links.length=brs d-1+k:=hl;obtain⟨v,p1,p2,p3⟩:=ZgY (N:=N) hd.ho hd.hol (i:=2*(k:Int)) (by omega);obtain⟨m,m1,m2,m3⟩:=Zgp (v:=v) (b:=((brs d:Nat):Int)) p2 (by omega);obtain⟨t',w1,w2,_,w4⟩:=hr.toMk.with (N:=N) hd (x:=((brs d:Nat):Int)+(k:Int)) (y:=m) (by omega) (by omega) (by omega) hN;obtain⟨l,lA,lB,le⟩:=w4 (by omega) (by omega) (λj hj=>by
    have hB:=hr.ends j hj;have hA:(lk (tp b) j).A≠((brs d:Nat):Int)+(k:Int):=by
     by_cases h0:j<brs d-1
     ·rw[(hr.chain j h0).1];omega
     have:=hr.home (j-(brs d-1)) (by omega);rw[show brs d-1+(j-(brs d-1))=j by omega]at this;rw[this];omega
    unfold ZhD;rw[beq_false_of_ne hA,beq_false_of_ne (show(lk (tp b) j).B≠((brs d:Nat):Int)+(k:Int)by omega)];simp)
   subst le;refine⟨(b.1,b.2.1,b.2.2++[l]),?_,?_,?_,?_⟩
   ·show Zb8 N d k b.1 b.2.1 b.2.2=_;unfold Zb8;rw[b1,s1,Zav (by simp;omega),ZaK (show -9223372036854775808<=2*(k:Int)by omega) (by omega),p1,Zak,m1,Zak,ZaK (show -9223372036854775808<=((brs d:Nat):Int)+(k:Int)by omega) (by omega),w1,Zak,ZaO (by omega)]
   ·refine {w2 with len:=by simp;omega,chain:=λj hj=>?_,home:=λj hj=>?_}
    ·show(lk ⟨(tp b).Nodes,(tp b).Station,(tp b).Links++[l]⟩ j).A=_/\_;rw[Zer,Zav (by omega)];exact hr.chain j hj
    show(lk ⟨(tp b).Nodes,(tp b).Station,(tp b).Links++[l]⟩ (brs d-1+j)).A=_;rw[Zer];by_cases h0:j<k
    ·rw[Zav (by omega)];exact hr.home j h0
    rw[Zau (by omega),Zav (by omega),lA];omega
   ·simp;omega
   intro s hs;have:=ZmK (t:=tp b) (l:=l) ((brs d+s:Nat):Int);rw[show cntA (tp (b.1,b.2.1,b.2.2++[l])) _=_ from this,hc s hs];by_cases e:s=k
   ·subst e;rw[Zau (by omega),Zav (by omega),Zav (by omega)]
   rw[Zau (show ¬l.A=_ by omega)];by_cases h:s<k
   ·rw[Zav h,Zav (by omega)]
   rw[Zau h,Zau (by omega)])
  (λb ⟨hr,_⟩=>by
   show Zb8 N d ((sts d:Nat):Int) b.1 b.2.1 b.2.2=_;unfold Zb8;rw[s1,Zau (by simp)]) (sts d) N 0 x (by omega) (by omega) (by omega) ⟨hx,by omega,λs hs=>by rw[hc s hs,Zau (by omega)]⟩
 obtain⟨x',e1,e2,e3,e4⟩:=this;exact⟨x',e1,e2,λs hs=>by rw[e4 s hs,Zav hs]⟩
def ZzA (hd:DOK d)(hN:200<=N){x:Int×List Bool×List ZaW}(hx:Row (brs d) (brs d+sts d) (brs d-1) (sts d) (tp x))(hc:∀s,s<sts d->cntA (tp x) ((brs d+s:Nat):Int)=1):
  ∃x',ZaT (λx:Int×Int×(List Bool)×(List ZaW)=>ZbJ N d x.1 x.2.1 x.2.2.1 x.2.2.2) N (0,x)=some x'/\Row (brs d) (brs d+sts d) (brs d-1) (sts d) (tp x')/\∀s,s<sts d->1<=cntA (tp x') ((brs d+s:Nat):Int)/\cntA (tp x') ((brs d+s:Nat):Int)<=2:=by
 obtain⟨b1,b2,b3⟩:=Zqf hd;obtain⟨s1,s2,s3⟩:=ZoZ hd;have:=ZpU (n:=sts d) (fin:=λb:Int×List Bool×List ZaW=>b) (body:=λx:Int×Int×(List Bool)×(List ZaW)=>ZbJ N d x.1 x.2.1 x.2.2.1 x.2.2.2)
  (λk b=>Row (brs d) (brs d+sts d) (brs d-1) (sts d) (tp b)/\∀s,s<sts d->1<=cntA (tp b) ((brs d+s:Nat):Int)/\cntA (tp b) ((brs d+s:Nat):Int)<=if s<k then 2 else 1)
  (λk b hk ⟨hr,hc⟩=>by
   obtain⟨v,p1,p2,p3⟩:=ZgY (N:=N) hd.ho hd.hol (i:=2*(k:Int)+1) (by omega);obtain⟨m,m1,m2,m3⟩:=Zgp (v:=v) (b:=((brs d:Nat):Int)) p2 (by omega);have h0:∀s,s<sts d->1<=cntA (tp b) ((brs d+s:Nat):Int)/\cntA (tp b) ((brs d+s:Nat):Int)<=if s<k+1 then 2 else 1:=λs hs=>by
    obtain⟨q1,q2⟩:=hc s hs;refine⟨q1,?_⟩;split at q2<;>split<;>omega
   have hb:ZbJ N d (k:Int) b.1 b.2.1 b.2.2=if(decide (Int.tmod v 3>0))=true then(ZbB N d (tp b) (((brs d:Nat):Int)+(k:Int)) m).bind λr=>some (.inl (((k+1:Nat):Int),r.Nodes,r.Station,r.Links))else some (.inl (((k+1:Nat):Int),b)):=by
    unfold ZbJ;rw[b1,s1,Zav (by simp;omega),ZaK (show -9223372036854775808<=2*(k:Int)by omega) (by omega),ZaK (show -9223372036854775808<=2*(k:Int)+1 by omega) (by omega),p1];simp only[Zak,m1,ZaK (show -9223372036854775808<=((brs d:Nat):Int)+(k:Int)by omega) (by omega),ZaO (show k<1000000 by omega)];split
    ·cases ZbB N d (tp b) (((brs d:Nat):Int)+(k:Int)) m<;>rfl
    rfl
   by_cases hv:Int.tmod v 3>0
   ·obtain⟨t',w1,w2,w3,_⟩:=hr.toMk.with (N:=N) hd (x:=((brs d:Nat):Int)+(k:Int)) (y:=m) (by omega) (by omega) (by omega) hN;refine⟨(t'.Nodes,t'.Station,t'.Links),?_,?_⟩
    ·show ZbJ N d (k:Int) b.1 b.2.1 b.2.2=_;rw[hb,Zav (by simpa using hv),w1];rfl
    rcases w3 with rfl|⟨l,lA,lB,rfl⟩
    ·exact⟨hr,h0⟩
    refine⟨hr.keep w2,λs hs=>?_⟩;have:=ZmK (t:=tp b) (l:=l) ((brs d+s:Nat):Int);rw[show cntA (tp ((tp b).Nodes,(tp b).Station,(tp b).Links++[l])) _=_ from this];obtain⟨q1,q2⟩:=hc s hs;by_cases e:s=k
    ·subst e;rw[Zav (by omega),Zav (by omega)];rw[Zau (by omega)]at q2;omega
    rw[Zau (show ¬l.A=_ by omega)];exact h0 s hs
   refine⟨b,?_,hr,h0⟩;show ZbJ N d (k:Int) b.1 b.2.1 b.2.2=_;rw[hb,Zau (by simpa using hv)])
  (λb ⟨hr,_⟩=>by
   show ZbJ N d ((sts d:Nat):Int) b.1 b.2.1 b.2.2=_;unfold ZbJ;rw[s1,Zau (by simp)]) (sts d) N 0 x (by omega) (by omega) (by omega) ⟨hx,λs hs=>by rw[hc s hs];split<;>omega⟩
 obtain⟨x',e1,e2,e3⟩:=this;exact⟨x',e1,e2,λs hs=>by have:=e3 s hs;rw[Zav hs]at this;exact this⟩
def Zzz (hd:DOK d)(hN:200<=N){x:Int×List Bool×List ZaW}(hx:Row (brs d) (brs d+sts d) (brs d-1) (sts d) (tp x))(hc:∀s,s<sts d->1<=cntA (tp x) ((brs d+s:Nat):Int)/\cntA (tp x) ((brs d+s:Nat):Int)<=2):
  ∃x',ZaT (λx:Int×Int×(List Bool)×(List ZaW)=>Zcx N d x.1 x.2.1 x.2.2.1 x.2.2.2) N (0,x)=some x'/\Row (brs d) (brs d+sts d) (brs d-1) (sts d) (tp x')/\∀s,s<sts d->1<=cntA (tp x') ((brs d+s:Nat):Int)/\cntA (tp x') ((brs d+s:Nat):Int)<=2:=by
 obtain⟨b1,b2,b3⟩:=Zqf hd;obtain⟨s1,s2,s3⟩:=ZoZ hd;refine ZbK (I:=λx:Int×Int×List Bool×List ZaW=>0<=x.1/\Row (brs d) (brs d+sts d) (brs d-1) (sts d) (tp x.2)/\∀s,s<sts d->1<=cntA (tp x.2) ((brs d+s:Nat):Int)/\cntA (tp x.2) ((brs d+s:Nat):Int)<=2) (μ:=λx=>(14-x.1).toNat)
  (Post:=λx'=>Row (brs d) (brs d+sts d) (brs d-1) (sts d) (tp x')/\∀s,s<sts d->1<=cntA (tp x') ((brs d+s:Nat):Int)/\cntA (tp x') ((brs d+s:Nat):Int)<=2) ?_ N (0,x) ⟨by omega,hx,hc⟩ (by simp;omega)
 rintro⟨i,y⟩ ⟨h0,hr,hc⟩;simp only at h0 hr hc;by_cases hi:i<12/\i+1<(d.Chords.length:Int)
 ·left;obtain⟨v1,v2⟩:=hd.ch _ (List.getElem_mem (show i.toNat<d.Chords.length by omega));obtain⟨v3,v4⟩:=hd.ch _ (List.getElem_mem (show(i+1).toNat<d.Chords.length by omega));obtain⟨m,m1,m2,m3⟩:=Zgp (b:=((brs d:Nat):Int)) v1 (by omega);obtain⟨q,q1,q2,q3⟩:=Zgp (b:=((brs d:Nat):Int)) v3 (by omega);obtain⟨t',w1,w2,w3,_⟩:=hr.toMk.with (N:=N) hd (x:=m) (y:=q) (by omega) (by omega) (by omega) hN;refine⟨(i+2,t'.Nodes,t'.Station,t'.Links),?_,⟨by simp only;omega,?_⟩,by simp only;omega⟩
  ·show Zcx N d i y.1 y.2.1 y.2.2=_;unfold Zcx;rw[ZaK (show -9223372036854775808<=i+1 by omega) (by omega),Zav (by simp;omega),Zrn h0 (by omega),Zak,ZaK (by omega) (by omega),b1,m1,Zak,Zrn (by omega) (by omega),Zak,ZaK (by omega) (by omega),q1,Zak,w1,Zak,ZaK (by omega) (by omega)]
  rcases w3 with rfl|⟨l,lA,lB,rfl⟩
  ·exact⟨hr,hc⟩
  refine⟨hr.keep w2,λs hs=>?_⟩;have:=ZmK (t:=tp y) (l:=l) ((brs d+s:Nat):Int);rw[show cntA (tp ((tp y).Nodes,(tp y).Station,(tp y).Links++[l])) _=_ from this,Zau (show ¬l.A=_ by omega)];exact hc s hs
 right;refine⟨y,?_,hr,hc⟩;show Zcx N d i y.1 y.2.1 y.2.2=_;unfold Zcx;by_cases h1:i<12
 ·rw[ZaK (by omega) (by omega),Zau (by simp;omega)]
 rw[Zau (by simp;omega)]
def ZxA (hd:DOK d)(hN:200<=N):∃t,ZdU N d=some t/\Row (brs d) (brs d+sts d) (brs d-1) (sts d) t/\∀s,s<sts d->1<=cntA t ((brs d+s:Nat):Int)/\cntA t ((brs d+s:Nat):Int)<=2:=by
 obtain⟨b1,b2,b3⟩:=Zqf hd;obtain⟨s1,s2,s3⟩:=ZoZ hd;unfold ZdU;rw[ZzD hd hN,Zak];have e0:w64 (w64 (1+w64 (Int.tmod d.Bridges 6))+w64 (2+w64 (Int.tmod d.Stations 5)))=((brs d+sts d:Nat):Int):=by rw[b1,s1,ZaK (by omega) (by omega)];omega
 obtain⟨x2,l2,r2,k2,c2⟩:=ZzC (N:=N) hd hN (x:=(((brs d+sts d:Nat):Int),(List.range (brs d+sts d)).map (λk=>decide (brs d<=k)),[])) ⟨rfl,rfl,by simp,λk hk=>by simp at hk,λk hk=>by simp at hk⟩ rfl;rw[e0,l2,Zak];obtain⟨x3,l3,r3,c3⟩:=ZzB (N:=N) hd hN r2 k2 c2;rw[show((0:Int),x2.1,x2.2.1,x2.2.2)=(0,x2)from rfl,l3,Zak];have h0:∃x4:Int×List Bool×List ZaW,(if(decide (w64 (1+w64 (Int.tmod d.Bridges 6))>2)&&(Int.tmod d.Bridges 2==0))=true then(ZbB N d ⟨x3.1,x3.2.1,x3.2.2⟩ (w64 (w64 (1+w64 (Int.tmod d.Bridges 6))-1)) 0).bind λr=>some (r.Nodes,r.Station,r.Links)else some (x3.1,x3.2.1,x3.2.2))=some x4∧
   Row (brs d) (brs d+sts d) (brs d-1) (sts d) (tp x4)/\∀s,s<sts d->cntA (tp x4) ((brs d+s:Nat):Int)=1:=by
  by_cases hc:(decide (w64 (1+w64 (Int.tmod d.Bridges 6))>2)&&(Int.tmod d.Bridges 2==0))=true
  ·rw[Zav hc,b1,ZaK (show -9223372036854775808<=((brs d:Nat):Int)-1 by omega) (by omega)];obtain⟨t',w1,w2,w3,_⟩:=r3.toMk.with (N:=N) hd (x:=((brs d:Nat):Int)-1) (y:=0) (by omega) (by omega) (by omega) hN;refine⟨(t'.Nodes,t'.Station,t'.Links),by rw[w1];rfl,?_⟩;rcases w3 with rfl|⟨l,lA,lB,rfl⟩
   ·exact⟨r3,c3⟩
   refine⟨r3.keep w2,λs hs=>?_⟩;have:=ZmK (t:=tp x3) (l:=l) ((brs d+s:Nat):Int);rw[show cntA (tp ((tp x3).Nodes,(tp x3).Station,(tp x3).Links++[l])) _=_ from this,Zau (show ¬l.A=_ by omega)];exact c3 s hs
  rw[Zau hc];exact⟨x3,rfl,r3,c3⟩
 obtain⟨x4,l4,r4,c4⟩:=h0;rw[l4,Zak];obtain⟨x5,l5,r5,c5⟩:=ZzA (N:=N) hd hN r4 c4;rw[show((0:Int),x4.1,x4.2.1,x4.2.2)=(0,x4)from rfl,l5,Zak];obtain⟨x6,l6,r6,c6⟩:=Zzz (N:=N) hd hN r5 c5;rw[show((0:Int),x5.1,x5.2.1,x5.2.2)=(0,x5)from rfl,l6,Zak];exact⟨_,rfl,r6,c6⟩
end
end Go.Sh

namespace Go.Sh
open Go Go.Eng
def cntB (l:List ZaW)(x:Int):Nat:=l.countP (λl=>l.B==x)
def Zxs {l:List Int}{i:Nat}{v:Int}{j:Nat}(h:i<l.length):(l.set i v).getD j 0=if j=i then v else l.getD j 0:=by
 rw[ZF,ZF,ZP];by_cases e:j=i
 ·subst e;rw[Zav rfl,Zav h,Zav rfl];rfl
 rw[Zau (Ne.symm e),Zau e]
def Zvw {b:List Int}{x:Int}(h0:0<=x)(h:x<b.length){j:Nat}(hv:0<=b.getD x.toNat 0/\b.getD x.toNat 0<=1000):(bump b x).getD j 0=b.getD j 0+(if x=j then 1 else 0):=by
 unfold bump;rw[Zxs (by omega)];by_cases e:j=x.toNat
 ·rw[Zav e,Zav (by omega),ZaK (by omega) (by omega),e]
 rw[Zau e,Zau (by omega)];omega
def Zrx {m:Int}:∀(l:List ZaW) (b:List Int) (M:Nat),(b.length:Int)=m->(∀k∈l,(0<=k.A/\k.A<m)/\0<=k.B/\k.B<m)->(∀j:Nat,0<=b.getD j 0/\b.getD j 0<=M)->M+2*l.length<=900->∀j:Nat,
  (l.foldl Zqd b).getD j 0=b.getD j 0+(l.countP (λk=>k.A==(j:Int)):Nat)+(cntB l j:Nat)
 |[],b,M,_,_,_,_,j=>by simp[cntB]
 |k::l,b,M,hb,hl,hM,h0,j=>by
  obtain⟨⟨a1,a2⟩,a3,a4⟩:=hl k (by simp);have g1:∀j:Nat,(bump b k.A).getD j 0=b.getD j 0+(if k.A=j then 1 else 0):=λj=>Zvw a1 (by omega) (by have:=hM k.A.toNat;simp only[ZW]at h0;omega)
  have g2:∀j:Nat,(Zqd b k).getD j 0=b.getD j 0+(if k.A=j then 1 else 0)+(if k.B=j then 1 else 0):=λj=>by
   unfold Zqd;rw[Zvw a3 (by rw[Zvu];omega) (by rw[g1];have:=hM k.B.toNat;simp only[ZW]at h0;split<;>omega),g1]
  rw[ZE,Zrx l (Zqd b k) (M+2) (by rw[Zqc];exact hb) (λk hk=>hl k (by simp[hk])) (λj=>by rw[g2];have:=hM j;split<;>split<;>omega) (by simp only[ZW]at h0;omega) j,g2];simp only[cntB,List.countP_cons];by_cases e1:k.A=(j:Int)<;>by_cases e2:k.B=(j:Int)<;>simp[e1,e2]<;>omega
def Zq7 {l:List Bool}{k:ZaW}{x:Nat}(h:l.getD x false=true):(ZiA l k).getD x false=true:=by
 unfold ZiA;split
 ·exact ZjH (ZjH h)
 exact h
def Zrq {x:Nat}:∀(ks:List ZaW) {l:List Bool},l.getD x false=true->(ks.foldl ZiA l).getD x false=true
 |[],l,h=>h
 |k::ks,l,h=>Zrq ks (Zq7 h)
def ZjI {l:List Bool}{i:Nat}(h:i<l.length):(l.set i true).getD i false=true:=by
 rw[ZF,ZP,Zav rfl,Zav h];rfl
def Zq8 {l:List Bool}{k:ZaW}(h:l.getD k.A.toNat false=true∨l.getD k.B.toNat false=true)(hA:k.A.toNat<l.length)(hB:k.B.toNat<l.length):(ZiA l k).getD k.A.toNat false=true/\(ZiA l k).getD k.B.toNat false=true:=by
 unfold ZiA;rw[Zav (by rcases h with h|h<;>rw[h]<;>simp)];exact⟨ZjH (ZjI hA),ZjI (by simpa using hB)⟩
def Zpf (ks:List ZaW)(l:List Bool):(ks.foldl ZiA l).length=l.length:=by
 induction ks generalizing l with
 |nil=>rfl
 |cons k ks ih=>rw[ZE,ih,Zo8]
section
variable {b n c h:Nat} {t:Zaz}
def Zjd (t:Zaz)(l:List Bool):Zkg t l=t.Links.foldl ZiA l:=Zp0 dL t.Links ZiA l
def Row.round (r:Row b n (b-1) (n-b) t)(hb:1<=b)(h9:b<=n){l:List Bool}(hl:l.length=n)(h0:l.getD 0 false=true):∀x,x<n->(Zkg t l).getD x false=true:=by
 have h3:∀k,k<t.Links.length->(0<=(lk t k).A/\(lk t k).A<n)/\0<=(lk t k).B/\(lk t k).B<n:=λk hk=>by
  have:=Zdc (r.links k hk).1;exact⟨r.toMk.node.1 this.1,r.toMk.node.1 this.2.1⟩
 have h7:=r.len;have step:∀k,k<=t.Links.length->∀x,x<n->(x<b/\x<=k)∨(b<=x/\b-1+(x-b)<k)->((t.Links.take k).foldl ZiA l).getD x false=true:=by
  intro k;induction k with
  |zero=>
   intro _ x hx hc;rcases hc with⟨h1,h2⟩|⟨h1,h2⟩
   ·obtain rfl:x=0:=by omega
    simpa using h0
   omega
  |succ k ih=>
   intro hk x hx hc;have h6:t.Links.take (k+1)=t.Links.take k++[lk t k]:=by
    have:lk t k=t.Links[k]:=by simp[lk,ZF,show k<t.Links.length by omega]
    rw[this,List.take_append_getElem]
   rw[h6,ZD,ZE,List.foldl_nil];have h8:((t.Links.take k).foldl ZiA l).length=n:=by rw[Zpf,hl]
   obtain⟨⟨n1,n2⟩,n3,n4⟩:=h3 k (by omega);by_cases hold:(x<b/\x<=k)∨(b<=x/\b-1+(x-b)<k)
   ·exact Zq7 (ih (by omega) x hx hold)
   rcases hc with⟨h1,h2⟩|⟨h1,h2⟩
   ·have h4:x=k+1:=by omega
    obtain⟨c1,c2⟩:=r.chain k (by omega);have:=Zq8 (k:=lk t k) (l:=(t.Links.take k).foldl ZiA l) (.inl (by rw[c1];exact ih (by omega) k (by omega) (.inl ⟨by omega,by omega⟩))) (by omega) (by omega);have e:=this.2;rw[c2]at e;rw[h4];exact e
   have h4:k=b-1+(x-b):=by omega
   have c1:=r.home (x-b) (by omega);rw[←h4]at c1;have hB:=r.ends k (by omega);have:=Zq8 (k:=lk t k) (l:=(t.Links.take k).foldl ZiA l) (.inr (ih (by omega) (lk t k).B.toNat (by omega) (.inl ⟨by omega,by omega⟩))) (by omega) (by omega);have e:=this.1;rw[c1]at e
   rwa [show(((b+(x-b):Nat):Int)).toNat=x by omega]at e
 intro x hx;rw[Zjd];have:=step t.Links.length (Nat.le_refl _) x hx (by
  by_cases h5:x<b
  ·exact .inl ⟨h5,by omega⟩
  exact .inr ⟨by omega,by omega⟩)
 rwa [Zad]at this
def Row.reach (r:Row b n (b-1) (n-b) t)(hb:1<=b)(h3:b<=n)(hn:1<=n):∀x,x<n->(Zhy t 0).getD x false=true:=by
 have h0:t.Nodes.toNat=n:=by rw[r.nodes];omega
 unfold Zhy;rw[h0];have h1:∀m,1<=m->∀x,x<n->((List.range m).foldl (λl _=>Zkg t l) ((List.replicate n false).set (0:Int).toNat true)).getD x false=true/\((List.range m).foldl (λl _=>Zkg t l) ((List.replicate n false).set (0:Int).toNat true)).length=n:=by
  intro m hm;induction m with
  |zero=>omega
  |succ m ih=>
   intro x hx;rw[Zaa,ZD,ZE,List.foldl_nil];by_cases h2:m=0
   ·subst h2;refine⟨r.round hb h3 (by simp) (ZjI (by simp;omega)) x hx,?_⟩;rw[Zjd,Zpf];simp
   obtain⟨i1,i2⟩:=ih (by omega) x hx;exact⟨by rw[Zjd];exact Zrq _ i1,by rw[Zjd,Zpf];exact i2⟩
 exact λx hx=>(h1 n hn x hx).1
def Row.good (r:Row b n (b-1) (n-b) t)(hb:1<=b)(h4:b+1<=n)(h2:n<=12)(hc:∀s,s<n-b->1<=cntA t ((b+s:Nat):Int)/\cntA t ((b+s:Nat):Int)<=2):Good t:=by
 have h0:t.Nodes.toNat=n:=by rw[r.nodes];omega
 refine⟨by rw[r.nodes];omega,by rw[r.nodes];omega,r.stl,r.l24,r.links,λx hx=>?_⟩;rw[h0]at hx;refine⟨r.reach hb (by omega) (by omega) x hx,?_⟩;unfold degB;rw[r.stB (by omega) (by omega)];by_cases h1:(b:Int)<=(x:Int)
 ·have hd:(degs t).getD x 0=(cntA t (x:Int):Nat)+(cntB t.Links x:Nat):=by
   have e0:degs t=t.Links.foldl Zqd (List.replicate n 0):=by rw[←h0];exact Zp0 dL t.Links Zqd _
   rw[e0];have hz:∀j:Nat,(List.replicate n (0:Int)).getD j 0=0:=λj=>by
    rw[ZF,ZO];split<;>rfl
   have:=Zrx (m:=(n:Int)) t.Links (List.replicate n 0) 0 (by simp) (λk hk=>by
    obtain⟨i,hi,rfl⟩:=List.getElem_of_mem hk;have e:lk t i=t.Links[i]:=by simp[lk,ZF,hi]
    have:=Zdc (r.links i hi).1;rw[e]at this;exact⟨r.toMk.node.1 this.1,r.toMk.node.1 this.2.1⟩) (λj=>by rw[hz];omega) (by have:=r.l24;omega) x
   rw[this,hz];unfold cntA;omega
  have h3:cntB t.Links x=0:=by
   unfold cntB;rw[List.countP_eq_zero];intro k hk;obtain⟨i,hi,rfl⟩:=List.getElem_of_mem hk;have e:lk t i=t.Links[i]:=by simp[lk,ZF,hi]
   have:=r.ends i hi;rw[e]at this;simp;omega
  have:=hc (x-b) (by omega);rw[show((b+(x-b):Nat):Int)=(x:Int)by omega]at this;rw[Zar h1,hd,h3,Zar (by omega),Zar (by omega)];rfl
 rw[decide_eq_false h1];rfl
def Row.port (r:Row b n (b-1) (n-b) t)(hb:1<=b)(h8:b+1<=n){x:Int}(h0:0<=x)(hx:x<n):∃k,k<t.Links.length/\((lk t k).A=x∨(lk t k).B=x):=by
 have h6:=r.len;by_cases h7:x<b
 ·by_cases h5:x.toNat<b-1
  ·exact⟨x.toNat,by omega,.inl (by rw[(r.chain x.toNat h5).1];omega)⟩
  by_cases h9:b=1
  ·
   have h1:=r.home 0 (by omega);have h2:=r.ends (b-1+0) (by omega);have h3:=Zdc (r.links (b-1+0) (by omega)).1;have h4:=r.toMk.node.1 h3.2.1;exact⟨b-1+0,by omega,.inr (by omega)⟩
  have:=r.chain (b-2) (by omega);exact⟨b-2,by omega,.inr (by rw[this.2];omega)⟩
 have:=r.home (x.toNat-b) (by omega);exact⟨b-1+(x.toNat-b),by omega,.inl (by rw[this];omega)⟩
end
def Zwm {N:Nat}{d:ZbQ}(hd:DOK d)(hN:200<=N):∃t,ZdU N d=some t/\Good t/\∀x:Int,0<=x->x<t.Nodes->∃k,k<t.Links.length/\((lk t k).A=x∨(lk t k).B=x):=by
 obtain⟨_,b2,b3⟩:=Zqf hd;obtain⟨_,s2,s3⟩:=ZoZ hd;obtain⟨t,e,r,c⟩:=ZxA (N:=N) hd hN;have hr:Row (brs d) (brs d+sts d) (brs d-1) (brs d+sts d-brs d) t:=by rw[show brs d+sts d-brs d=sts d by omega];exact r
 refine⟨t,e,hr.good b2 (by omega) (by omega) (λs hs=>c s (by omega)),λx h0 hx=>?_⟩;rw[r.nodes]at hx;exact hr.port b2 (by omega) h0 hx
end Go.Sh

namespace Go.Sh
open Go Go.Eng
section
variable {N:Nat} {t:Zaz}
def ZqP (g:Good t)(x:Int)(hN:200<=N):Zhv N t x=some (PF (λp=>frm t p==x) (2*t.Links.length)):=by
 have h0:=g.l24;unfold Zhv;have:=Zd7 (n:=2*t.Links.length) (f:=λb k=>PF (λp=>frm t p==x) (k+1)) (body:=λy:Int×(List Int)=>Zd6 N t x y.1 y.2) (fin:=λb=>b) (λk b=>b=PF (λp=>frm t p==x) k)
  (λk b hk hb=>by
   show Zd6 N t x k b=_;unfold Zd6;subst hb;have:=Zzq (λp=>frm t p==x) k;have hp:ZcD t (k:Int)=true:=by simp only[ZcD,Ze,Zas];omega
   rw[Zav (by rw[ZaK (by omega) (by omega)];simp;omega),ZeE (by omega) hp,Zak,ZxS,ZaO (by omega)];cases (frm t (k:Int)==x)with
   |false=>rfl
   |true=>simp only[Zaw];rw[Zh9 (by rw[Z0];omega) (by omega)];rfl)
  (λk b hk hb=>rfl)
  (λb hb=>by show Zd6 N t x ((2*t.Links.length:Nat):Int) b=_;unfold Zd6;rw[Zau (by rw[ZaK (by omega) (by omega)];simp)]) (N:=N) (by omega) (b0:=[]) rfl
 rw[this.1,Zak,this.2]
def ZwW (g:Good t){seen Q:List Int}(hs:seen.length<=100)(hQ:Q.length<=100)(hp:∀p∈Q,ZcD t p=true)(hN:200<=N):
  ZaT (λx:Int×(List Int)=>Zck N t seen Q x.1 x.2) N (0,[])=some (Q.filter λp=>!seen.contains (too t p)):=by
 have hL:t.Links.length<=1000:=by have:=g.l24;omega
 have:=Zd7 (n:=Q.length) (f:=λb k=>(Q.take (k+1)).filter λp=>!seen.contains (too t p)) (body:=λx:Int×(List Int)=>Zck N t seen Q x.1 x.2) (fin:=λb=>b) (λk b=>b=(Q.take k).filter λp=>!seen.contains (too t p))
  (λk b hk hb=>by
   show Zck N t seen Q k b=_;unfold Zck;subst hb;have h1:((Q.take k).filter λp=>!seen.contains (too t p)).length<=100:=Nat.le_trans (List.length_filter_le _ _) (by simp;omega);have h0:Q.take (k+1)=Q.take k++[Q[k]]:=by rw[List.take_append_getElem]
   rw[Zav (by simp;omega),ZbH hk,Zak,Zfe hL (hp _ (List.getElem_mem hk)),Zak,Zjs (by omega) (by omega),Zak,h0,List.filter_append,ZaO (by omega)];cases hc:seen.contains (too t Q[k])with
   |true=>
    have:[Q[k]].filter (λp=>!seen.contains (too t p))=[]:=by rw[List.filter_cons_of_neg (by rw[hc];simp)];rfl
    rw[this,List.append_nil];rfl
   |false=>
    have:[Q[k]].filter (λp=>!seen.contains (too t p))=[Q[k]]:=by rw[List.filter_cons_of_pos (by rw[hc];rfl)];rfl
    rw[this];simp only[Bool.not_false,Zaw,Zak];rw[Zh9 (by rw[Z0];omega) (by omega)];rfl)
  (λk b hk hb=>rfl)
  (λb hb=>by show Zck N t seen Q Q.length b=_;unfold Zck;rw[Zau (by simp)]) (N:=N) (by omega) (b0:=[]) (by simp)
 rw[this.1,this.2,Zad]
def Zny {r:List Int}{p:Int}{k:Nat}:at0 (r++[p]) k=if k<r.length then at0 r k else if k=r.length then p else 0:=by
 unfold at0;simp only[ZF];by_cases h:k<r.length
 ·rw[Zav h,ZG h]
 rw[Zau h,ZH (by omega)];by_cases e:k=r.length
 ·subst e;simp
 rw[Zau e];cases hh:k-r.length with
 |zero=>omega
 |succ m=>simp
def ZvZ {r:List Int}{p m:Int}(hm:r≠[]->frm t (at0 r 0)=m)(h0:r=[]->frm t p=m):Zbx t (r++[p])=(m::r.map (too t))++[too t p]:=by
 unfold Zbx;rw[Zny,Z2];by_cases h:r=[]
 ·subst h;simp[h0 rfl]
 have:0<r.length:=List.length_pos_iff.2 h;rw[Zav this,hm h];rfl
def Zw5 {r:List Int}{p m:Int}(hm:r≠[]->frm t (at0 r 0)=m)(h0:r=[]->frm t p=m)(h7:∀k,k<r.length->okAt t r k=true)(hp:ZcD t p=true)
  (hf:frm t p=(m::r.map (too t)).getD r.length 0) (h6:r≠[]->stB t (frm t p)=false) (h3:(m::r.map (too t)).contains (too t p)=false):∀k,k<(r++[p]).length->okAt t (r++[p]) k=true:=by
 have hN:=ZvZ (t:=t) hm h0;have h8:(m::r.map (too t)).length=r.length+1:=by simp
 have h5:∀k,k<=r.length->nd t (r++[p]) k=(m::r.map (too t)).getD k 0:=λk hk=>by
  unfold nd;rw[hN,ZF,ZG (by omega),ZF]
 have h1:nd t (r++[p]) (r.length+1)=too t p:=by
  unfold nd;rw[hN,ZF,ZH (by omega)];simp
 have hold:r≠[]->Zbx t r=m::r.map (too t):=λh=>by unfold Zbx;rw[hm h]
 intro k hk;simp only[ZV,Z0]at hk;unfold okAt;rw[Zny];by_cases h2:k<r.length
 ·have h4:r≠[]:=by intro e;subst e;simp at h2
  rw[Zav h2];have:=h7 k h2;unfold okAt at this;have e1:nd t (r++[p]) k=nd t r k:=by rw[h5 k (by omega)];unfold nd;rw[hold h4]
  have e2:nd t (r++[p]) (k+1)=nd t r (k+1):=by rw[h5 (k+1) (by omega)];unfold nd;rw[hold h4]
  have e3:(Zbx t (r++[p])).take (k+1)=(Zbx t r).take (k+1):=by rw[hN,hold h4,Zac (by omega)]
  rw[e1,e2,e3];exact this
 obtain rfl:k=r.length:=by omega
 rw[Zau h2,Zav rfl,h1,h5 _ (Nat.le_refl _),←hf,hp,hN,Zac (by omega),Zae (by omega),h3];by_cases h:r=[]
 ·subst h;rfl
 rw[h6 h];simp
def ZvQ (g:Good t)(hf:∀x:Int,0<=x->x<t.Nodes->∃k,k<t.Links.length/\((lk t k).A=x∨(lk t k).B=x)){n k:Int}(hn:Byte n)(hk:Byte k)(hN:200<=N):∃r,ZkR N t n k=some r/\ZbS t r=true:=by
 have hL:t.Links.length<=1000:=by have:=g.l24;omega
 have g4:=g.l24;have g3:=g.n2;obtain⟨n0,n1⟩:=hn;obtain⟨k0,k1⟩:=hk;unfold ZkR;rw[ZaK (by omega) (by omega)];obtain⟨m,m1,m2,m3⟩:=Zgp (v:=n) (b:=t.Nodes) n0 (by omega);rw[m1,Zak];have key:∃o,ZaT (λx:Int×(List Int)×(List Int)=>Zfw N t k x.1 x.2.1 x.2.2) N (m,[m],[])=some o/\∃r,(o=.inl r∨o=.inr r)/\ZbS t r=true:=by
  refine ZbK (I:=λx:Int×List Int×List Int=>x.2.2.length<=8/\x.2.1=m::x.2.2.map (too t)/\x.1=x.2.1.getD x.2.2.length 0/\(x.2.2≠[]->frm t (at0 x.2.2 0)=m)/\(∀j,j<x.2.2.length->okAt t x.2.2 j=true)/\Zfp t x.1=true)
   (μ:=λx=>8-x.2.2.length) (Post:=λo:List Int⊕List Int=>∃r,(o=.inl r∨o=.inr r)/\ZbS t r=true) ?_ N (m,[m],[]) ⟨by simp,by simp,by simp,λh=>absurd rfl h,λj hj=>by simp at hj,ZhC.2 ⟨m2,m3⟩⟩ (by simp;omega)
  rintro⟨a,seen,out⟩ ⟨i1,i2,i3,i4,i5,i6⟩;simp only at i1 i2 i3 i4 i5 i6;have h6:out≠[]->ZbS t out=true:=λh=>by
   have:0<out.length:=List.length_pos_iff.2 h;simp only[ZbS,Ze,Zas,Zbr];exact⟨this,i1,i5⟩
  have ha:(if decide ((out.length:Int)<8)=true then if((out.length:Int)==0)=true then some true else(idx t.Station a).bind λe517=>some (!e517)else some false)=some (decide (out.length<8)&&(decide (out.length=0)||!stB t a)):=by
   rw[ZgD g.st i6];by_cases h8:out.length<8
   ·rw[Zav (by simp;omega),Zar h8];by_cases h0:out.length=0
    ·rw[Zav (by simp[h0]),Zar h0];rfl
    rw[Zau (by simp;intro e;rw[e]at h0;exact h0 rfl),decide_eq_false h0];rfl
   rw[Zau (by simp;omega),decide_eq_false h8];rfl
  have h7:seen.length=out.length+1:=by rw[i2];simp
  have he:Zfw N t k a seen out=(some (decide (out.length<8)&&(decide (out.length=0)||!stB t a))).bind λj=>if j=true then(Zhv N t a).bind λr521=>(ZaT (λx:Int×(List Int)=>Zck N t seen r521 x.1 x.2) N (0,[])).bind λo1547=>
    if((o1547.length:Int)==0)=true then some (.inr (.inr out))else(remI (w64 (w64 k+w64 (3*(out.length:Int)))) (o1547.length:Int)).bind λm1552=>(idx o1547 m1552).bind λe1553=>(appI 8 out [e1553]).bind λl1558=>(ZeD N t e1553).bind λr1559=>(appI 8 seen [r1559]).bind λl1562=>some (.inl (r1559,l1562,l1558))
    else some (.inr (.inl out)):=by
   unfold Zfw;rw[ha]
  show(∃y,Zfw N t k a seen out=some (.inl y)/\_/\_)∨_;rw[he,Zak];cases hj:(decide (out.length<8)&&(decide (out.length=0)||!stB t a))with
  |false=>
   right;refine⟨_,rfl,out,.inl rfl,h6 λe=>?_⟩;subst e;simp at hj
  |true=>
   simp only[Ze,Zas,Zj,Zh]at hj;have hg:∀p,p∈PF (λp=>frm t p==a) (2*t.Links.length)↔ZcD t p=true/\frm t p=a:=λp=>by
    rw[ZMo,beq_iff_eq];simp only[ZcD,Ze,Zas];constructor
    ·rintro⟨h1,h2,h3⟩;exact⟨⟨h1,by omega⟩,h3⟩
    rintro⟨⟨h1,h2⟩,h3⟩;exact⟨h1,by omega,h3⟩
   have g0:=Zzq (λp=>frm t p==a) (2*t.Links.length);rw[Zav rfl,ZqP g a hN,Zak,ZwW g (by omega) (by omega) (λp hp=>((hg p).1 hp).1) hN,Zak];have h5:∀p,p∈(PF (λp=>frm t p==a) (2*t.Links.length)).filter (λp=>!seen.contains (too t p))↔ZcD t p=true/\frm t p=a/\seen.contains (too t p)=false:=λp=>by
    rw[List.mem_filter,hg,Zh,and_assoc]
   have hu:((PF (λp=>frm t p==a) (2*t.Links.length)).filter (λp=>!seen.contains (too t p))).length<=100:=Nat.le_trans (List.length_filter_le _ _) (by omega);generalize (PF (λp=>frm t p==a) (2*t.Links.length)).filter (λp=>!seen.contains (too t p))=next at h5 hu
   by_cases hz:next.length=0
   ·right;rw[Zav (by simp[hz])];refine⟨_,rfl,out,.inr rfl,h6 λe=>?_⟩;subst e;have hy:a=m:=by rw[i3,i2];rfl
    obtain⟨q,hq,hm⟩:=hf m m2 m3;have h4:=Zdc (g.links q hq).1;have hx:∃p,ZcD t p=true/\frm t p=m/\too t p≠m:=by
     rcases hm with h|h
     ·refine⟨2*(q:Int),by simp only[ZcD,Ze,Zas];omega,?_,?_⟩
      ·unfold frm plk;rw[show Int.tmod (2*(q:Int)) 2=0 by rw[Zr (by omega)];omega,show(Int.tdiv (2*(q:Int)) 2).toNat=q by rw[Zq (by omega)];omega];simpa[lk]using h
      unfold too plk;rw[show Int.tmod (2*(q:Int)) 2=0 by rw[Zr (by omega)];omega,show(Int.tdiv (2*(q:Int)) 2).toNat=q by rw[Zq (by omega)];omega];have:(lk t q).B≠m:=λe=>h4.2.2 (by rw[h,e])
      simpa[lk]using this
     refine⟨2*(q:Int)+1,by simp only[ZcD,Ze,Zas];omega,?_,?_⟩
     ·unfold frm plk;rw[show Int.tmod (2*(q:Int)+1) 2=1 by rw[Zr (by omega)];omega,show(Int.tdiv (2*(q:Int)+1) 2).toNat=q by rw[Zq (by omega)];omega];simpa[lk]using h
     unfold too plk;rw[show Int.tmod (2*(q:Int)+1) 2=1 by rw[Zr (by omega)];omega,show(Int.tdiv (2*(q:Int)+1) 2).toNat=q by rw[Zq (by omega)];omega];have:(lk t q).A≠m:=λe=>h4.2.2 (by rw[h,e])
     simpa[lk]using this
    obtain⟨p,p1,p2,p3⟩:=hx;have:p∈next:=(h5 p).2 ⟨p1,by rw[hy];exact p2,by rw[i2];simp[p3]⟩
    rw[List.eq_nil_of_length_eq_zero hz]at this;cases this
   left;rw[Zau (by simp;intro e;rw[e]at hz;exact hz rfl)];have hv:0<=w64 (w64 k+w64 (3*(out.length:Int))):=by
    rw[ZaK (x:=k) (by omega) (by omega),ZaK (x:=3*(out.length:Int)) (by omega) (by omega),ZaK (by omega) (by omega)];omega
   obtain⟨q,q1,q2,q3⟩:=Zgp (b:=(next.length:Int)) hv (by omega);rw[q1,Zak,Zrn q2 (by omega),Zak];have hh:next[q.toNat]'(by omega)∈next:=List.getElem_mem _
   generalize next[q.toNat]'(by omega)=p at hh
   obtain⟨p1,p2,p3⟩:=(h5 p).1 hh;rw[Zh9 (by simp;omega) (by omega),Zak,Zfe hL p1,Zak,Zh9 (by simp;omega) (by omega),Zak];have ht:=ZhF g p1;have h9:(out++[p]).length=out.length+1:=by simp
   refine⟨_,rfl,⟨?_,?_,?_,?_,?_,ht.2.1⟩,?_⟩
   ·simp only;omega
   ·simp only;rw[i2];simp
   ·simp only;rw[h9,ZF,ZH (by omega)];simp[h7]
   ·simp only;intro _;rw[Zny];by_cases h0:0<out.length
    ·rw[Zav h0];exact i4 (List.length_pos_iff.1 h0)
    have:out=[]:=List.eq_nil_of_length_eq_zero (by omega);subst this;rw[Zau (by simp),Zav (by simp),p2,i3,i2];rfl
   ·simp only;refine Zw5 i4 (λh=>?_) i5 p1 ?_ (λh=>?_) ?_
    ·subst h;rw[p2,i3,i2];rfl
    ·rw[p2,i3,i2]
    ·rw[p2];rcases hj.2 with h'|h'
     ·exact absurd (List.eq_nil_of_length_eq_zero h') h
     exact h'
    rw[←i2];exact p3
   simp only;omega
 obtain⟨o,o1,r,o2,o3⟩:=key;rw[o1,Zak];rcases o2 with rfl|rfl
 ·exact⟨r,rfl,o3⟩
 exact⟨r,rfl,o3⟩
end
end Go.Sh

namespace Go.Sh
open Go Go.Eng
def ZrJ (x:Int):Byte (IntKind.u8.wrap x):=by
 unfold Byte IntKind.wrap;simp only[IntKind.bits,IntKind.signed];have h1:=Int.emod_nonneg x (show(2 ^ 8:Int)≠0 by decide);have h2:=Int.emod_lt_of_pos x (show(0:Int)<2 ^ 8 by decide);simp only[Bool.false_and,Zg,Zat];constructor<;>omega
section
variable {N:Nat} {t:Zaz} {s:Zax}
def Zvg {r:List Int}(h1:1<=r.length)(h:r.length<=100):idx r (w64 ((r.length:Int)-1))=some (at0 r (r.length-1)):=by
 rw[ZaK (by omega) (by omega),show(r.length:Int)-1=((r.length-1:Nat):Int)by omega,ZbH (by omega),Zl4 (by omega)]
def Zsw {r:List Int}(h1:1<=r.length):idx r 0=some (at0 r 0):=by
 rw[show(0:Int)=((0:Nat):Int)from rfl,ZbH (by omega),Zl4 (by omega)]
def ZAA {r:List Int}(h1:1<=r.length):nd t r r.length=too t (at0 r (r.length-1)):=by
 have:=Zin (t:=t) (r:=r) (k:=r.length-1) (by omega)
 rwa [show r.length-1+1=r.length by omega]at this
def ZqI (g:Good t)(s:Zax)(r:List Int)(hN:200<=N):
  ((ZdM N t r).bind λr530=>(if(!r530)then(some true)else((idx r 0).bind λe533=>((Zdu N t e533).bind λr534=>(if(r534 !=s.Talker)then(some true)else((idx r (w64 ((r.length:Int)-1))).bind λe537=>((ZeD N t e537).bind λr538=>(some (r538 !=s.Listener)))))))))=some (!Zg4 t s r):=by
 have hL:t.Links.length<=1000:=by have:=g.l24;omega
 rw[Zko g r hN,Zak];unfold Zg4;cases hv:ZbS t r with
 |false=>rfl
 |true=>
  obtain⟨h1,h8,hp⟩:=Zch hv;simp only[Zi,Zg,Zat];rw[Zsw h1,Zak,ZeE hL (hp 0 (by omega)),Zak,Zvg h1 (by omega),Zak,Zfe hL (hp _ (by omega)),Zak,ZAy,ZAA h1];by_cases e:frm t (at0 r 0)=s.Talker
  ·have:(frm t (at0 r 0)!=s.Talker)=false:=by simp[e]
   rw[this];simp only[Zg,Zat,e,beq_self_eq_true,Zk];rfl
  have:(frm t (at0 r 0)!=s.Talker)=true:=by simp[e]
  rw[this];simp only[Zaw,beq_eq_false_iff_ne.2 e,Bool.false_and,Bool.and_false,Bool.not_false]
def Zpo (g:Good t){s:Zax}(hl:s.Routes.length<=2)(hN:200<=N):ZaT (λx:Int=>ZeT N t s x) N 0=some (if s.Routes.all (Zg4 t s)then .inl ()else .inr false):=by
 have:=Zbm (n:=s.Routes.length) (p:=λk=>Zg4 t s (s.Routes.getD k [])) (body:=λx:Int=>ZeT N t s x) (bad:=.inr false) (fin:=.inl ()) (λk hk=>by
  unfold ZeT;rw[Zav (by simp;omega),ZbH hk,Zak,ZbE hk,ZqI g s _ hN,Zak,ZaO (by omega)];cases Zg4 t s s.Routes[k]<;>rfl) (by unfold ZeT;rw[Zau (by simp)]) (N:=N) (by omega)
 rw[this,ZmN s.Routes [] (Zg4 t s)]
def Zus (g:Good t){s:Zax}(hl:s.Routes.length<=2)(hN:200<=N):ZaT (λx:Int=>Zlv N t s x) N 0=some (if s.Routes.all (Zg4 t s)then .inl ()else .inr false):=Zpo g hl hN
def ZvV (g:Good t){s:Zax}(hl:lenB s=true)(hr:s.Routes.all (Zg4 t s)=true)(hN:200<=N):
  (if((s.Routes.length:Int)==1)then(some true)else((idx s.Routes 0).bind λe545=>((idx s.Routes 1).bind λe546=>((Zen N t e545 e546).bind λr547=>(some r547)))))=some (Zuy t s):=by
 simp only[lenB,Ze,Zas]at hl;unfold Zuy;by_cases h2:s.Routes.length<2
 ·rw[Zav (by simp;omega)];simp[h2]
 rw[Zau (by simp;omega),show(0:Int)=((0:Nat):Int)from rfl,show(1:Int)=((1:Nat):Int)from rfl,ZbH (by omega),ZbH (by omega)];simp only[Zak];have e0:=ZiB hr (k:=0) (by omega);have e1:=ZiB hr (k:=1) (by omega);rw[ZbE (by omega)]at e0 e1;rw[Zlw g e0.1 e1.1 hN,Zak,ZbE (by omega),ZbE (by omega)];simp[h2]
def Zlu (g:Good t)(s:Zax)(hN:200<=N):Zht N t s=some (Zbz t s):=by
 have head:((Zdn N s.Id 1 4095).bind λr1=>(if(!r1)then(some true)else((ZdL N t s.Talker).bind λr4=>(if(!r4)then(some true)else((ZdL N t s.Listener).bind λr7=>(if(!r7)then(some true)else(if(s.Talker==s.Listener)then(some true)else((Zdn N s.Size 84 1542).bind λr12=>(if(!r12)then(some true)else((Zdn N s.Deadline 1 1099511627776).bind λr15=>(some (!r15))))))))))))=some (!ZuJ t s):=by
  simp only[Zjl,Zop g,Zak];unfold ZuJ;cases inB s.Id 1 4095<;>cases Zqp t s.Talker<;>cases Zqp t s.Listener<;>cases h4:(s.Talker==s.Listener)<;>cases inB s.Size 84 1542<;>cases inB s.Deadline 1 1099511627776<;>simp[bne,h4]
 have rest:∀L:Option (Unit⊕Bool),(s.Routes.length<=2->L=some (if s.Routes.all (Zg4 t s)then .inl ()else .inr false))->(if((decide ((s.Routes.length:Int)<1))||(decide ((s.Routes.length:Int)>2)))then(some false)else(L.bind λo541=>match o541 with
   |(.inl p542)=>(((if((s.Routes.length:Int)==1)then(some true)else((idx s.Routes 0).bind λe545=>((idx s.Routes 1).bind λe546=>((Zen N t e545 e546).bind λr547=>(some r547)))))).bind λ(j548:Bool)=>(some j548))
   |(.inr p549)=>(some p549)))=some (lenB s&&(s.Routes.all (Zg4 t s)&&Zuy t s)):=by
  intro L hL;cases hl:lenB s with
  |false=>
   rw[Zav]
   ·rfl
   rw[Bool.eq_false_iff]at hl;simp only[lenB,ne_eq,Ze,Zas]at hl;simp only[Zj,Zas];omega
  |true=>
   have h0:=hl;simp only[lenB,Ze,Zas]at h0;rw[Zau (by simp only[Zj,Zas];omega),hL h0.2];cases hr:s.Routes.all (Zg4 t s)with
   |false=>rfl
   |true=>
    simp only[Zaw,Zak];rw[ZvV g hl hr hN];rfl
 unfold Zht;rw[head,Zak];unfold Zbz;cases hh:ZuJ t s with
 |false=>rfl
 |true=>
  simp only[Zi,Zg,Zat,Zk];unfold Zry;simp only[Zjl,Zak];by_cases c7:(s.Class==7)=true
  ·rw[Zav c7,Zav c7];have r1:=rest _ (λh=>Zpo g h hN);cases inB s.Period 1 240 with
   |false=>rfl
   |true=>cases (s.Bucket.Burst==0)with
    |false=>rfl
    |true=>cases (s.Bucket.Rate==0)with
     |false=>rfl
     |true=>exact r1
  rw[Zau c7,Zau c7];by_cases c6:(s.Class==6)=true
  ·rw[Zav c6,Zav c6];have r2:=rest _ (λh=>Zus g h hN);unfold bne;cases (s.Period==0)with
   |false=>rfl
   |true=>cases inB s.Bucket.Burst s.Size 1048576 with
    |false=>rfl
    |true=>cases inB s.Bucket.Rate 1 2097152 with
     |false=>rfl
     |true=>exact r2
  rw[Zau c6,Zau c6];rfl
structure SDOK (d:Zcw):Prop where
 node:Byte d.Node
 way:Byte d.Way
 size:Byte d.Size
 period:Byte d.Period
 burst:Byte d.Burst
 rate:0<=d.Rate/\d.Rate<=65535
def ZxT (t:Zaz):Prop:=∀x:Int,0<=x->x<t.Nodes->∃k,k<t.Links.length/\((lk t k).A=x∨(lk t k).B=x)
def Zkl (g:Good t)(h0:ZxT t){n k:Int}(hn:Byte n)(hk:Byte k)(hN:200<=N):∃r,ZiF N t n k=some r/\(r=[]∨ZbS t r=true):=by
 have hL:t.Links.length<=1000:=by have:=g.l24;omega
 unfold ZiF;obtain⟨o,o1,o2⟩:=ZbK (body:=λx:Int=>Zjm N t n k x) (I:=λx:Int=>∃j:Nat,x=j/\j<=16) (μ:=λx=>16-x.toNat) (Post:=λo:Unit⊕List Int=>o=.inl ()∨∃r,o=.inr r/\ZbS t r=true) (by
  rintro x ⟨j,rfl,hj⟩;simp only[Zjm];by_cases h3:j<16
  ·rw[Zav (by simp;omega)];obtain⟨r,r1,r2⟩:=ZvQ (N:=N) g h0 hn (ZrJ (k+IntKind.u8.wrap (j:Int))) hN;obtain⟨h1,h8,hp⟩:=Zch r2;have p0:=hp 0 (by omega);have pl:=hp (r.length-1) (by omega);rw[r1,Zak,Zav (by simp;omega),Zko g r hN,r2,Zak,Zav rfl,Zsw h1,Zak,ZeE hL p0,Zak,ZgD g.st (ZhF g p0).1,Zak,Zvg h1 (by omega),Zak,Zfe hL pl,Zak,
    ZgD g.st (ZhF g pl).2.1,Zak]
   have h2:neL r=some ():=by
    cases r with
    |nil=>simp at h1
    |cons a l=>rfl
   cases hc:(if stB t (frm t (at0 r 0))=true then some (stB t (too t (at0 r (r.length-1))))else some false)with
   |none=>split at hc<;>cases hc
   |some b=>
    rw[Zak];cases b with
    |true=>right;exact⟨_,by rw[Zav rfl,h2];rfl,.inr ⟨r,rfl,r2⟩⟩
    |false=>left;exact⟨_,by rw[Zau (by decide),ZaO (by omega)],⟨j+1,rfl,by omega⟩,by simp;omega⟩
  right;exact⟨_,by rw[Zau (by simp;omega)],.inl rfl⟩) N 0 ⟨0,rfl,by omega⟩ (by simp;omega)
 rw[o1,Zak];rcases o2 with rfl|⟨r,rfl,hr⟩
 ·exact⟨[],rfl,.inl rfl⟩
 exact⟨r,rfl,.inr hr⟩
def Zjp (g:Good t)(h0:ZxT t){d:Zcw}(hd:SDOK d)(id:Int)(hN:200<=N):∃x b,Zed N d t id=some (x,b)/\(b=true->Zbz t x=true/\x.Id=id):=by
 have hL:t.Links.length<=1000:=by have:=g.l24;omega
 have h7:=g.n2;have h4:=g.n12;unfold Zed;rw[ZaK (x:=d.Node) (by have:=hd.node.1;omega) (by have:=hd.node.2;omega)];obtain⟨m,m1,m2,m3⟩:=Zgp (v:=d.Node) (b:=t.Nodes) hd.node.1 (by omega);rw[m1,Zak];obtain⟨o,o1,o2⟩:=ZbK (body:=λx:Int×Int=>Zel N t x.1 x.2) (I:=λx:Int×Int=>(0<=x.1/\x.1<t.Nodes)/\0<=x.2/\x.2<=t.Nodes) (μ:=λx=>(t.Nodes-x.2).toNat) (Post:=λo:Int=>0<=o/\o<t.Nodes) (by
  rintro⟨a,i⟩ ⟨⟨a0,a1⟩,i0,i1⟩;simp only at a0 a1 i0 i1;simp only[Zel];by_cases hi:i<t.Nodes
  ·rw[Zav (by simp;omega),ZgD g.st (ZhC.2 ⟨a0,a1⟩),Zak,Zak];cases stB t a with
   |true=>right;exact⟨a,by rfl,a0,a1⟩
   |false=>
    left;obtain⟨q,q1,q2,q3⟩:=Zgp (v:=a+1) (b:=t.Nodes) (by omega) (by omega);rw[Zav (by simp),ZaK (by omega) (by omega),q1,Zak,ZaK (by omega) (by omega)];exact⟨_,rfl,⟨⟨q2,q3⟩,by simp only;omega,by simp only;omega⟩,by simp only;omega⟩
  right;rw[Zau (by simp;omega)];exact⟨a,rfl,a0,a1⟩) N (m,0) ⟨⟨m2,m3⟩,by simp,by simp only;omega⟩ (by simp only;omega)
 rw[o1,Zak];obtain⟨r,r1,r2⟩:=Zkl (N:=N) g h0 (ZrJ o) hd.way hN;rw[r1,Zak];rcases r2 with rfl|r2
 ·exact⟨_,_,rfl,λh=>by cases h⟩
 obtain⟨h1,h8,hp⟩:=Zch r2;have h3:¬List.isEmpty r=true:=by cases r with
  |nil=>simp at h1
  |cons a l=>simp
 rw[Zau h3,Zsw h1,Zak,ZeE hL (hp 0 (by omega)),Zak,Zvg h1 (by omega),Zak,Zfe hL (hp _ (by omega)),Zak];have hj:∃j:Int×Int×Int×Int,(if d.Reserved=true then some ((6:Int),(0:Int),w64 (w64 (84+w64 d.Size)+w64 (4*w64 d.Burst)),w64 (1+w64 d.Rate))else(idx [4,6,8,12,16,24,48,10,5,240] (Int.tmod d.Period 10)).bind λe1021=>some (7,e1021,0,0))=some j:=by
  by_cases hr:d.Reserved=true
  ·rw[Zav hr];exact⟨_,rfl⟩
  rw[Zau hr];have hm:Int.tmod d.Period 10=d.Period%10:=Zr hd.period.1;rw[hm,Zrn (Int.emod_nonneg _ (by decide)) (by have:=Int.emod_lt_of_pos d.Period (show(0:Int)<10 by decide);simp only[ZW,ZY];omega)];exact⟨_,rfl⟩
 obtain⟨j,j1⟩:=hj;rw[j1,Zak];obtain⟨o',p1,p2⟩:=ZbK (body:=λx:Int×(List (List Int))=>Zek N d t o r (too t (at0 r (r.length-1))) x.1 x.2) (I:=λx:Int×List (List Int)=>∃k:Nat,x.1=k/\k<=24/\x.2.length<=k+1) (μ:=λx=>24-x.1.toNat) (Post:=λ_:List (List Int)=>True) (by
  rintro⟨a,l⟩ ⟨k,rfl,hk,hl⟩;simp only at hl;simp only[Zek];cases hc:(if decide ((k:Int)<24)=true then if d.Two=true then some ((l.length:Int)==1)else some false else some false)with
  |none=>split at hc;split at hc;all_goals cases hc
  |some b=>
   rw[Zak];cases b with
   |false=>right;exact⟨l,rfl,trivial⟩
   |true=>
    left;have h6:k<24:=by
     by_cases h:k<24
     ·exact h
     rw[Zau (by simp;omega)]at hc;cases hc
    rw[Zav rfl];obtain⟨q,q1,q2⟩:=Zkl (N:=N) g h0 (ZrJ o) (ZrJ (d.Way+IntKind.u8.wrap (k:Int))) hN;rw[q1,Zak];have fin:∀(X:Option (List (List Int))) (l':List (List Int)),X=some l'->l'.length<=k+1+1->∃y,(X.bind λj2037=>some (Sum.inl (β:=List (List Int)) (w64 ((k:Int)+1),j2037)))=some (Sum.inl (β:=List (List Int)) y)/\(∃k_1:Nat,y.1=(k_1:Int)/\k_1<=24/\y.2.length<=k_1+1)/\24-y.1.toNat<24-(k:Int).toNat:=by
     intro X l' hX h5;subst hX;exact⟨_,by rw[Zak,ZaO (by omega)],⟨k+1,rfl,by omega,h5⟩,by simp only[Zs];omega⟩
    rcases q2 with rfl|q2
    ·exact fin _ l rfl (by omega)
    obtain⟨w1,w8,wp⟩:=Zch q2;have wne:¬List.isEmpty q=true:=by cases q with
     |nil=>simp at w1
     |cons a l=>simp
    rw[Zau wne,Zvg w1 (by omega),Zak,Zfe hL (wp _ (by omega)),Zak,Zlw g r2 q2 hN,Zak];cases h2:(if(too t (at0 q (q.length-1))==too t (at0 r (r.length-1)))=true then some (Zqj t r q)else some false)with
    |none=>split at h2<;>cases h2
    |some b2=>
     rw[Zak];cases b2 with
     |false=>exact fin _ l rfl (by omega)
     |true=>exact fin _ (l++[q]) (by rw[Zav rfl,Zh9 (by simp;omega) (by omega)];rfl) (by simp;omega)) N (0,[r]) ⟨0,rfl,by omega,by simp⟩ (by simp;omega)
 rw[p1,Zak,Zlu g _ hN,Zak];exact⟨_,_,rfl,λh=>⟨h,rfl⟩⟩
structure SL (t:Zaz) (l:List Zax):Prop where
 len:l.length<=6
 ok:∀k,k<l.length->Zbz t (l.getD k dS)=true/\idAt l k=((k+1:Nat):Int)
def SL.snoc {l:List Zax}(h:SL t l)(h6:l.length<6){x:Zax}(hx:Zbz t x=true)(hi:x.Id=((l.length+1:Nat):Int)):SL t (l++[x]):=by
 refine⟨by simp;omega,λk hk=>?_⟩;unfold idAt;by_cases e:k<l.length
 ·have:=h.ok k e;unfold idAt at this;rw[ZbE hk,List.getElem_append_left e,←ZbE e dS];exact this
 have:k=l.length:=by simp at hk;omega
 subst this;rw[ZbE hk];simp only[List.getElem_append_right (Nat.le_refl _),Nat.sub_self,List.getElem_cons_zero];exact⟨hx,hi⟩
def Zmj (g:Good t)(h1:ZxT t){L:List Zcw}(hL:∀d∈L,SDOK d)(h0:L.length<=maxLen)(hN:200+L.length<=N):∃l,ZgX N t L=some l/\SL t l:=by
 unfold ZgX;obtain⟨o,o1,o2⟩:=ZbK (body:=λx:Int×(List Zax)=>ZgC N t L x.1 x.2) (I:=λx:Int×List Zax=>∃k:Nat,x.1=k/\k<=L.length/\SL t x.2) (μ:=λx=>L.length-x.1.toNat) (Post:=SL t) (by
  rintro⟨a,l⟩ ⟨k,rfl,hk,hl⟩;simp only at hl;simp only[ZgC];by_cases h2:k<L.length
  ·rw[Zav (by simp;omega),Zak];by_cases h6:l.length<6
   ·rw[Zav (by simp;omega),ZbH h2,Zak];obtain⟨x,b,x1,x2⟩:=Zjp (N:=N) g h1 (hL _ (List.getElem_mem h2)) (w64 ((l.length:Int)+1)) (by omega);rw[x1,Zak];have hw:w64 ((k:Int)+1)=((k+1:Nat):Int):=by
     rw[ZaK (by omega) (by have:L.length<=9223372036854775807:=h0;omega)];omega
    left;cases b with
    |false=>exact⟨_,by rw[Zau (by simp),Zak,hw],⟨k+1,rfl,by omega,hl⟩,by simp only[Zs];omega⟩
    |true=>
     obtain⟨y1,y2⟩:=x2 rfl;have hs:=hl.snoc h6 y1 (by rw[y2,ZaO (by omega)]);exact⟨_,by rw[Zav rfl,Zh9 (by simp;omega) (by omega),Zak,Zak,hw],⟨k+1,rfl,by omega,hs⟩,by simp only[Zs];omega⟩
   right;exact⟨l,by rw[Zau (by simp;omega)],hl⟩
  right;exact⟨l,by rw[Zau (by simp;omega)];rfl,hl⟩) N (0,[]) ⟨0,rfl,by omega,⟨by simp,λk hk=>by simp at hk⟩⟩ (by simp;omega)
 exact⟨o,by rw[o1];rfl,o2⟩
def Zmk {a b c:Int}(ha:Byte a)(hb:Byte b)(hc:Byte c):∃u,Zjn N a b c=some u/\ZdB u=true:=by
 obtain⟨a0,a1⟩:=ha;obtain⟨b0,b1⟩:=hb;obtain⟨c0,c1⟩:=hc;refine⟨_,rfl,?_⟩;have hm:Int.tmod b 40=b%40:=Zr b0;have e1:=Int.emod_nonneg b (show(40:Int)≠0 by decide);have e2:=Int.emod_lt_of_pos b (show(0:Int)<40 by decide);rw[hm,ZaK (x:=a) (by omega) (by omega),ZaK (x:=20*a) (by omega) (by omega),ZaK (x:=100+20*a) (by omega) (by omega),ZaK (x:=b%40) (by omega) (by omega),ZaK (x:=c) (by omega) (by omega)];simp only[ZdB,inB,Ze,Zas];refine⟨⟨?_,?_⟩,⟨?_,?_⟩,⟨?_,?_⟩,?_,?_⟩<;>omega
end
end Go.Sh

namespace Go.Sh
open Go Go.Eng
section
variable {N:Nat} {t:Zaz} {u:ZaC} {s:Zax}
def Ze6 {α:Type}{n k:Nat}(f:Nat->α)(h:k<n):idx ((List.range n).map f) (k:Int)=some (f k):=by
 rw[ZbH (by simpa using h)];simp
def Zvk (g:Good t)(hu:ZeZ u)(hs:ZkL s){r:List Int}(hp:∀k,k<r.length->ZcD t (at0 r k)=true){k:Nat}(hk:k+1<r.length):
  (Za2 t u s r (k+1)).Early=ZbC t u (Za2 t u s r k)-2*u.Slack/\(Za2 t u s r (k+1)).Late=ZbC t u (Za2 t u s r k)+2*u.Slack∧
  (Za2 t u s r (k+1)).Late<=(Za2 t u s r (k+1)).Open/\(Za2 t u s r (k+1)).Open<(Za2 t u s r (k+1)).Late+u.Grid/\(Za2 t u s r (k+1)).Open%u.Grid=0/\(Za2 t u s r k).Open<(Za2 t u s r (k+1)).Open:=by
 have hb:=Zg6 g hu hs hp k (by omega);obtain⟨o1,o2,o3⟩:=hb.told g hu;have h0:=hb.op1;have c:=ZsB hu (x:=ZbC t u (Za2 t u s r k)+2*u.Slack) (by have:=hu.s1;omega);have:=hu.s1;refine⟨rfl,rfl,c.1,c.2.1,c.2.2,?_⟩;show _<Znx u (ZbC t u (Za2 t u s r k)+2*u.Slack);omega
def Zhe (g:Good t)(hu:ZeZ u)(hs:ZkL s){r:List Int}(hp:∀k,k<r.length->ZcD t (at0 r k)=true)(h8:r.length<=8){k:Nat}(hk:k<r.length):
  0<=(Za2 t u s r k).Open/\(Za2 t u s r k).Open<=20000000/\0<=ZbC t u (Za2 t u s r k)/\ZbC t u (Za2 t u s r k)<=20000000:=by
 have hb:=Zg6 g hu hs hp k hk;obtain⟨o1,o2,o3⟩:=hb.told g hu;have h0:=hb.op1;have h1:=hb.op2;omega
def SDOK.of {d:Zcw}(h:Ziu d):SDOK d:=by
 obtain⟨_,_,h1,h2,h3,h4,h5,h6⟩:=h;refine⟨ZfF h1,ZfF h2,ZfF h3,ZfF h4,ZfF h5,?_⟩;simpa[InK,Lit.wf,IntKind.min,IntKind.max,IntKind.signed,IntKind.bits]using h6
end
end Go.Sh
namespace Go.Sh
open Go Go.Eng
section
variable {N:Nat} {t:Zaz} {u:ZaC} {s:Zax}
def Zw7 (l:List Zax)(k:Nat):allB k (λj=>!(idAt l j==idAt l k))=Zsm l k:=by
 unfold Zsm allB;rw[List.not_any_eq_all_not]
def Znf (l:List Zax)(hN:200<=N):Zf9 N t l=some (allR t l):=by
 unfold Zf9 allR;rw[Zly (by omega),Zak];cases hT:Zef t with
 |false=>rfl
 |true=>
  have g:=Zbg.1 hT;simp only[Zi,Zaw,Zg,Zat];by_cases h0:l.length<=12
  ·rw[Zau (by simp;omega),Zav h0];have:=Zbm (n:=l.length) (p:=λk=>Zbz t (l.getD k dS)) (body:=λx:Int=>ZeC N t l x) (bad:=.inr 321) (fin:=.inl ()) (λk hk=>by
    unfold ZeC;rw[Zav (by simp;omega),ZbH hk,Zak,ZbE hk,Zlu g _ hN,Zak,ZaO (by omega)];cases Zbz t l[k]<;>rfl) (by unfold ZeC;rw[Zau (by simp)]) (N:=N) (by omega)
   rw[this,ZmN l dS (Zbz t)];cases l.all (Zbz t)with
   |false=>rfl
   |true=>
    simp only[Zaw,Zak];have:=Zbm (n:=l.length) (p:=Zsm l) (body:=λx:Int=>ZcY N l x) (bad:=.inr 322) (fin:=.inl ()) (λk hk=>by
     show ZcY N l (k:Int)=_;unfold ZcY;rw[Zav (by simp;omega)];have h1:=Zbm (n:=k) (p:=λj=>!(idAt l j==idAt l k)) (body:=λx:Int=>ZcX N l (k:Int) x) (bad:=.inr 322) (fin:=.inl ()) (λj hj=>by
      show ZcX N l (k:Int) (j:Int)=_;unfold ZcX;rw[Zav (by simp;omega),ZbH (show j<l.length by omega),Zak,ZbH hk,Zak,ZaO (by omega)];have e1:idAt l j=l[j].Id:=by unfold idAt;rw[ZbE (by omega)]
      have e2:idAt l k=l[k].Id:=by unfold idAt;rw[ZbE hk]
      rw[e1,e2];cases l[j].Id==l[k].Id<;>rfl) (by show ZcX N l (k:Int) (k:Int)=_;unfold ZcX;rw[Zau (by simp)]) (N:=N) (by omega)
     rw[h1,Zw7,ZaO (by omega)];cases Zsm l k<;>rfl) (by show ZcY N l (l.length:Int)=_;unfold ZcY;rw[Zau (by simp)]) (N:=N) (by omega)
    rw[this];cases allB l.length (Zsm l)<;>rfl
  rw[Zav (by simp;omega),Zau h0]
end
end Go.Sh
namespace Go.Sh
open Go Go.Eng
section
variable {N:Nat} {t:Zaz} {u:ZaC} {s:Zax}
def Zzw {G X:Int}(hG:1<=G)(h1:G<=10000)(hX:0<=X)(h0:X<=25000000)(hN:30000000<=N){body:Int->Option (Int⊕Int)}(hb:∀x,body x=if decide (x<X)=true then some (.inl (w64 (x+G)))else some (.inr x)):
  ZaT body N 0=some ((X+G-1)/G*G):=by
 obtain⟨o,o1,o2⟩:=ZbK (body:=body) (I:=λx:Int=>0<=x/\x<X+G/\x%G=0) (μ:=λx=>(X+G-x).toNat) (Post:=λr:Int=>X<=r/\r<X+G/\r%G=0) (by
  rintro x ⟨x0,x1,x2⟩;rw[hb];by_cases h:x<X
  ·left;refine⟨_,by rw[Zav (by simpa using h),ZaK (by omega) (by omega)],⟨by omega,by omega,?_⟩,by omega⟩;rw[Int.add_emod_right];exact x2
  right;exact⟨x,by rw[Zau (by simpa using h)],by omega,x1,x2⟩) N 0 ⟨by omega,by omega,by simp⟩ (by omega)
 rw[o1];obtain⟨p1,p2,p3⟩:=o2
 congr 1
 have e1:=Int.mul_ediv_add_emod (X+G-1) G;have e2:=Int.emod_nonneg (X+G-1) (show G≠0 by omega);have e3:=Int.emod_lt_of_pos (X+G-1) (show 0<G by omega);have e4:=Int.mul_ediv_add_emod o G;rw[Zp]at e1 e4;have hq:o/G=(X+G-1)/G:=by
  generalize (X+G-1)/G=q at*;generalize o/G=p at*;rcases Int.lt_trichotomy p q with h|h|h
  ·have:(p+1)*G<=q*G:=Int.mul_le_mul_of_nonneg_right (by omega) (by omega);rw[Zl]at this;omega
  ·exact h
  have:(q+1)*G<=p*G:=Int.mul_le_mul_of_nonneg_right (by omega) (by omega);rw[Zl]at this;omega
 rw[←hq];omega
def ZnL (g:Good t)(hu:ZeZ u)(hs:ZkL s){r:List Int}(hv:ZbS t r=true)(hN:30000000<=N):ZiG N t u s r=some ((List.range r.length).map (Za2 t u s r)):=by
 obtain⟨h1,h8,hp⟩:=Zch hv;have hL:t.Links.length<=1000:=by have:=g.l24;omega
 unfold ZiG;rw[Zsw h1,Zak,Zak,ZnO hL (hp 0 (by omega)),Zak];have l0:=ZpR g hs (hp 0 (by omega));rw[ZaK (x:=s.Size*(plk t (at0 r 0)).Per) (by omega) (by omega)];have h2:∀k:Nat,1<=k->k<r.length->Zfj N t u s r (k:Int) ((List.range k).map (Za2 t u s r))=some (.inl (((k+1:Nat):Int),(List.range (k+1)).map (Za2 t u s r))):=by
  intro k k1 hk;obtain⟨j,rfl⟩:∃j,k=j+1:=⟨k-1,by omega⟩;unfold Zfj;have hb:=Zg6 g hu hs hp j (by omega);obtain⟨n1,n2,n3,n4,n5,n6⟩:=Zvk g hu hs hp hk;obtain⟨b1,b2,b3,b4⟩:=Zhe g hu hs hp h8 (show j<r.length by omega);obtain⟨_,_,d1,d2⟩:=Zhc g hb.port;have lo1:=hb.long1;have lo2:=hb.long2;have s1:=hu.s1;have s2:=hu.s2;have g1:=hu.g1;have g2:=hu.g2;have p1:=hu.p1;have p2:=hu.p2;have x3:idx ((List.range (j+1)).map (Za2 t u s r)) (w64 (((j+1:Nat):Int)-1))=some (Za2 t u s r j):=by
   rw[ZaK (by omega) (by omega),show((j+1:Nat):Int)-1=(j:Int)by omega,Ze6 _ (by omega)]
  rw[Zav (by simp;omega),x3,Zak,ZlC hL hb.port,Zak,ZbH hk,Zak,Zak,←Zl4 hk,ZnO hL (hp _ hk),Zak];have lk:=ZpR g hs (hp _ hk);have h0:(Za2 t u s r j).Open+(Za2 t u s r j).Long+(plk t (Za2 t u s r j).Port).Delay+u.Proc=ZbC t u (Za2 t u s r j):=rfl;have w1:w64 ((Za2 t u s r j).Open+(Za2 t u s r j).Long)=(Za2 t u s r j).Open+(Za2 t u s r j).Long:=ZaK (by omega) (by omega);have w2:w64 ((Za2 t u s r j).Open+(Za2 t u s r j).Long+(plk t (Za2 t u s r j).Port).Delay)=(Za2 t u s r j).Open+(Za2 t u s r j).Long+(plk t (Za2 t u s r j).Port).Delay:=ZaK (by omega) (by omega);have w3:w64 (ZbC t u (Za2 t u s r j))=ZbC t u (Za2 t u s r j):=ZaK (by omega) (by omega);have w4:w64 (2*u.Slack)=2*u.Slack:=ZaK (by omega) (by omega);have w5:w64 (ZbC t u (Za2 t u s r j)+2*u.Slack)=ZbC t u (Za2 t u s r j)+2*u.Slack:=ZaK (by omega) (by omega);have w6:w64 (ZbC t u (Za2 t u s r j)-2*u.Slack)=ZbC t u (Za2 t u s r j)-2*u.Slack:=ZaK (by omega) (by omega);have h3:=Zzw (N:=N) (G:=u.Grid) (X:=ZbC t u (Za2 t u s r j)+2*u.Slack) g1 g2 (by omega) (by omega) hN (body:=λx:Int=>Zkn N u (Za2 t u s r j) (plk t (Za2 t u s r j).Port).Delay x) (λx=>by
   simp only[Zkn];rw[w1,w2,h0,w3,w4,w5])
  rw[h3,Zak,w1,w2,h0,w3,w4,w5,w6,ZaK (x:=s.Size*(plk t (at0 r (j+1))).Per) (by omega) (by omega),Zh9 (by simp;omega) (by omega),Zak,ZaO (by omega)];have e:[ZaZ.mk (at0 r (j+1)) (ZbC t u (Za2 t u s r j)-2*u.Slack) (ZbC t u (Za2 t u s r j)+2*u.Slack) ((ZbC t u (Za2 t u s r j)+2*u.Slack+u.Grid-1)/u.Grid*u.Grid) (s.Size*(plk t (at0 r (j+1))).Per)]=[j+1].map (Za2 t u s r):=rfl;rw[e,←Z2,←Zaa]
 have key:∀(m N' k:Nat),r.length-k=m->1<=k->k<=r.length->m<N'->ZaT (λx:Int×(List ZaZ)=>Zfj N t u s r x.1 x.2) N' ((k:Int),(List.range k).map (Za2 t u s r))=some ((List.range r.length).map (Za2 t u s r)):=by
  intro m;induction m with
  |zero=>
   intro N' k e0 e1 e2 e3;obtain rfl:k=r.length:=by omega
   cases N' with
   |zero=>omega
   |succ N'=>
    rw[Zbh (r:=(List.range r.length).map (Za2 t u s r))];show Zfj N t u s r ((r.length:Nat):Int) _=_;unfold Zfj;rw[Zau (by simp)]
  |succ m ih=>
   intro N' k e0 e1 e2 e3;cases N' with
   |zero=>omega
   |succ N'=>
    rw[ZbX (y:=(((k+1:Nat):Int),(List.range (k+1)).map (Za2 t u s r))) (h2 k e1 (by omega))];exact ih N' (k+1) (by omega) (by omega) (by omega) (by omega)
 have:=key (r.length-1) N 1 rfl (Nat.le_refl _) h1 (by omega);have e:(1,[ZaZ.mk (at0 r 0) 0 0 0 (s.Size*(plk t (at0 r 0)).Per)])=(((1:Nat):Int),(List.range 1).map (Za2 t u s r)):=rfl;rw[e,this];rfl
end
end Go.Sh
namespace Go.Sh
open Go Go.Eng
def ZmH {a G q:Int}(hG:0<G)(h1:q*G<=a)(h2:a<q*G+G):a/G=q:=by
 have e1:=Int.mul_ediv_add_emod a G;have e2:=Int.emod_nonneg a (show G≠0 by omega);have e3:=Int.emod_lt_of_pos a hG;rw[Zp]at e1;generalize a/G=p at*;rcases Int.lt_trichotomy p q with h|h|h
 ·have:(p+1)*G<=q*G:=Int.mul_le_mul_of_nonneg_right (by omega) (by omega);rw[Zl]at this;omega
 ·exact h
 have:(q+1)*G<=p*G:=Int.mul_le_mul_of_nonneg_right (by omega) (by omega);rw[Zl]at this;omega
def Zk3 {a G:Int}(hG:0<G):a/G*G<=a/\a<a/G*G+G:=by
 have e1:=Int.mul_ediv_add_emod a G;have e2:=Int.emod_nonneg a (show G≠0 by omega);have e3:=Int.emod_lt_of_pos a hG;rw[Zp]at e1;omega
def Zdd {a G B:Int}(hG:1<=G)(h1: -B<=a)(h2:a<=B)(hB:0<=B): -B<=a/G/\a/G<=B:=by
 constructor
 ·rw[Int.le_ediv_iff_mul_le (by omega)];have:B*1<=B*G:=Int.mul_le_mul_of_nonneg_left hG hB;rw[Int.neg_mul];omega
 have:a/G<B+1:=by
  rw[Int.ediv_lt_iff_lt_mul (by omega)];have:(B+1)*1<=(B+1)*G:=Int.mul_le_mul_of_nonneg_left hG (by omega);omega
 omega
def Zjy (N:Nat){a b:Int}(hb:1<=b)(h1: -100000000<=a)(h2:a<=100000000):ZeF N a b=some (a/b):=by
 unfold ZeF;have e:=Int.mul_tdiv_add_tmod a b;have l1:=Int.lt_tmod_of_pos a (show 0<b by omega);have l2:=Int.tmod_lt_of_pos a (show 0<b by omega);rw[Zp]at e;have hq: -100000000<=a.tdiv b/\a.tdiv b<=100000000:=by
  generalize a.tdiv b=q at*;rcases Int.lt_or_le q 0 with c|c
  ·have:q*b<=q*1:=Int.mul_le_mul_of_nonpos_left (by omega) (by omega);by_cases d:q≤ -1
   ·have h3:(q+1)*b<=(q+1)*1:=Int.mul_le_mul_of_nonpos_left (by omega) (by omega);rw[Zl]at h3;omega
   omega
  have:q*1<=q*b:=Int.mul_le_mul_of_nonneg_left (by omega) c;by_cases d:1<=q
  ·have h3:(q-1)*1<=(q-1)*b:=Int.mul_le_mul_of_nonneg_left (by omega) (by omega);simp only[Int.sub_mul,Int.one_mul,Int.mul_one]at h3;omega
  omega
 rw[Zjv (by omega),ZcO (by omega)];have ew:IntKind.i64.wrap (a.tdiv b)=a.tdiv b:=ZaK (by omega) (by omega);rw[ew];simp only[Zak];by_cases c:a.tmod b<0
 ·rw[Zav (by simpa using c),Zak,ZaK (by omega) (by omega)]
  congr 1
  symm;refine ZmH (by omega) ?_ ?_
  ·rw[Int.sub_mul];omega
  rw[Int.sub_mul];omega
 rw[Zau (by simpa using c),Zak]
 congr 1
 symm;refine ZmH (by omega) ?_ ?_<;>omega
def Zlq (N:Nat){a b:Int}(hb:1<=b)(h0:b<=1000000)(h1: -100000000<=a)(h2:a<=100000000):Zhq N a b=some (a/b):=by
 unfold Zhq;have m0:=Int.emod_nonneg a (show b≠0 by omega);have m1:=Int.emod_lt_of_pos a (show 0<b by omega);have hs:=Zdd (a:=a) (B:=100000000) hb h1 h2 (by omega);have e:a-a%b=b*(a/b):=by have:=Int.mul_ediv_add_emod a b;omega
 have ed:(b*(a/b)).tdiv b=a/b:=Int.mul_tdiv_cancel_left _ (by omega);have ew:IntKind.i64.wrap (a/b)=a/b:=ZaK (by omega) (by omega);rw[Zkk N (by omega) h0,Zak,ZaK (by omega) (by omega),e,Zjv (by omega),ed,ew,Zak]
def Zy1 {x G:Int}(hG:1<=G): -((-x)/G)=(x+G-1)/G:=by
 symm;obtain⟨a,b⟩:=Zk3 (a:= -x) (G:=G) (by omega);refine ZmH (by omega) ?_ ?_
 ·rw[Int.neg_mul];omega
 rw[Int.neg_mul];omega
section
variable {N:Nat} {t:Zaz} {u:ZaC} {s:Zax}
def useH (u:ZaC)(n P:Int)(h:ZaZ):ZaN:=⟨n,h.Port,(h.Early/u.Grid)%P,(h.Open+h.Long+u.Grid-1)/u.Grid-h.Early/u.Grid⟩
def Zgt (t:Zaz)(u:ZaC)(s:Zax)(r:List Int):List ZaZ:=(List.range r.length).map (Za2 t u s r)
def Zdl (t:Zaz)(u:ZaC)(n:Int)(s:Zax)(r:List Int):List ZaN:=(Zgt t u s r).map (useH u n s.Period)
def Znq (t:Zaz)(u:ZaC)(s:Zax)(r:List Int):Bool:=decide (ZbC t u (Za2 t u s r (r.length-1))+2*u.Slack>s.Deadline)
structure HN (u:ZaC) (h:ZaZ):Prop where
 e1: -2000<=h.Early
 e2:h.Early<=20000000
 o1:0<=h.Open
 o2:h.Open<=20000000
 l1:84<=h.Long
 l2:h.Long<=1542000
 eo:h.Early<=h.Open
def Zss (g:Good t)(hu:ZeZ u)(hs:ZkL s){r:List Int}(hv:ZbS t r=true){h:ZaZ}(hh:h∈Zgt t u s r):HN u h/\ZcD t h.Port=true:=by
 obtain⟨h1,h8,hp⟩:=Zch hv;obtain⟨k,hk,rfl⟩:=List.mem_map.1 hh;rw[Z5]at hk;have hb:=Zg6 g hu hs hp k hk;obtain⟨b1,b2,b3,b4⟩:=Zhe g hu hs hp h8 hk;have s1:=hu.s1;have s2:=hu.s2;refine⟨?_,hb.port⟩;cases k with
 |zero=>exact⟨by show -2000<=(0:Int);omega,by show(0:Int)<=20000000;omega,b1,b2,hb.long1,hb.long2,by show(0:Int)<=0;omega⟩
 |succ k=>
  obtain⟨n1,n2,n3,n4,n5,n6⟩:=Zvk g hu hs hp hk;obtain⟨c1,c2,c3,c4⟩:=Zhe g hu hs hp h8 (show k<r.length by omega);exact⟨by omega,by omega,b1,b2,hb.long1,hb.long2,by omega⟩
def ZAN (hu:ZeZ u){h:ZaZ}(hn:HN u h){n P:Int}(hP:1<=P)(h0:P<=1000):∃r2,ZeF N h.Early u.Grid=some (h.Early/u.Grid)/\ZeF N (w64 ((w64 ((w64 (h.Open+h.Long))+u.Grid))-1)) u.Grid=some ((h.Open+h.Long+u.Grid-1)/u.Grid)∧
  ZeF N (h.Early/u.Grid) P=some r2/\ZaN.mk n h.Port (w64 (h.Early/u.Grid-(w64 (r2*P)))) (w64 ((h.Open+h.Long+u.Grid-1)/u.Grid-h.Early/u.Grid))=useH u n P h:=by
 obtain⟨e1,e2,o1,o2,l1,l2,_⟩:=hn;have g1:=hu.g1;have g2:=hu.g2;have d1:=Zdd (a:=h.Early) (B:=20000000) g1 (by omega) e2 (by omega);have d2:=Zdd (a:=h.Open+h.Long+u.Grid-1) (B:=22000000) g1 (by omega) (by omega) (by omega);have m0:=Int.emod_nonneg (h.Early/u.Grid) (show P≠0 by omega);have m1:=Int.emod_lt_of_pos (h.Early/u.Grid) (show 0<P by omega);have em:h.Early/u.Grid/P*P=h.Early/u.Grid-h.Early/u.Grid%P:=by have:=Int.mul_ediv_add_emod (h.Early/u.Grid) P;rw[Zp]at this;omega
 refine⟨h.Early/u.Grid/P,Zjy N g1 (by omega) (by omega),?_,Zjy N hP (by omega) (by omega),?_⟩
 ·rw[ZaK (x:=h.Open+h.Long) (by omega) (by omega),ZaK (x:=h.Open+h.Long+u.Grid) (by omega) (by omega),ZaK (x:=h.Open+h.Long+u.Grid-1) (by omega) (by omega)];exact Zjy N g1 (by omega) (by omega)
 unfold useH;rw[em,ZaK (x:=h.Early/u.Grid-h.Early/u.Grid%P) (by omega) (by omega),ZaK (x:=h.Early/u.Grid-(h.Early/u.Grid-h.Early/u.Grid%P)) (by omega) (by omega),ZaK (x:=(h.Open+h.Long+u.Grid-1)/u.Grid-h.Early/u.Grid) (by omega) (by omega)]
 congr 1
 omega
def Ztg (hu:ZeZ u){h:ZaZ}(hn:HN u h){n P:Int}(hP:1<=P)(h0:P<=1000):Zmd N u n P h=some (useH u n P h):=by
 obtain⟨e1,e2,o1,o2,l1,l2,_⟩:=hn;have g1:=hu.g1;have g2:=hu.g2;have d1:=Zdd (a:=h.Early) (B:=20000000) g1 (by omega) e2 (by omega);have d2:=Zdd (a:=h.Open+h.Long+u.Grid-1) (B:=22000000) g1 (by omega) (by omega) (by omega);have c:=Zy1 (x:=h.Open+h.Long) g1;unfold Zmd useH;rw[Zlq N g1 (by omega) (by omega) (by omega),Zak,ZaK (x:=h.Open+h.Long) (by omega) (by omega),show(0:Int)-(h.Open+h.Long)= -(h.Open+h.Long)by omega,ZaK (x:= -(h.Open+h.Long)) (by omega) (by omega),Zlq N g1 (by omega) (by omega) (by omega),Zak,Zkk N (by omega) (by omega),Zak];rw[show(0:Int)- -(h.Open+h.Long)/u.Grid=(h.Open+h.Long+u.Grid-1)/u.Grid by omega,ZaK (x:=(h.Open+h.Long+u.Grid-1)/u.Grid) (by omega) (by omega),ZaK (by omega) (by omega)]
structure Ac where
 late:Bool
 P:List Int
 U:List ZaN
def Zfo (t:Zaz)(u:ZaC)(a:Ac)(s:Zax):Ac:=
 if s.Class=7 then⟨a.late||s.Routes.any (Znq t u s),a.P++[s.Period],a.U++s.Routes.flatMap (Zdl t u (a.P.length:Int) s)⟩else a
def accA (t:Zaz)(u:ZaC)(l:List Zax):Ac:=l.foldl (Zfo t u) ⟨false,[],[]⟩
structure SS (t:Zaz) (s:Zax):Prop where
 str:Zbz t s=true
 cls:s.Class=7
 per1:1<=s.Period
 per2:s.Period<=240
 dl:s.Deadline<=1099511627776
 r1:1<=s.Routes.length
 r2:s.Routes.length<=2
 rt:∀r∈s.Routes,ZbS t r=true
def SS.of (h:Zbz t s=true)(hc:s.Class=7):SS t s:=by
 obtain⟨⟨r1,r2⟩,hr⟩:=Zlf h;have h':=h;simp only[Zbz,ZuJ,inB,Zry,Ze,Zas]at h';obtain⟨h1,h2,_⟩:=h';rw[Zav (by simp[hc])]at h2;simp only[inB,Ze,Zas]at h2;refine⟨h,hc,h2.1.1,h2.1.2,h1.2.2.2.2.2.2,r1,r2,λr hm=>?_⟩;obtain⟨k,hk,rfl⟩:=List.getElem_of_mem hm;have:=(ZiB hr hk).1
 rwa [ZbE hk]at this
def ZoQ (g:Good t){r:List Int}(hv:ZbS t r=true)(n:Int):(Zdl t u n s r).length<=8:=by
 have:=(Zch hv).2.1;simp[Zdl,Zgt];omega
def ZcJ {α:Type}{l:List α}{k:Nat}(hk:k<l.length):l.take (k+1)=l.take k++[l[k]]:=by
 rw[Zaf hk]
def ZmE {α β:Type}(f:α->List β){B:Nat}:∀(l:List α),(∀x∈l,(f x).length<=B)->(l.flatMap f).length<=B*l.length
 |[],_=>by simp
 |x::l,h=>by
  have h1:=ZmE f l λy hy=>h y (by simp[hy])
  have h2:=h x (by simp);simp only[List.flatMap_cons,ZV,ZW];rw[Nat.mul_add];omega
def ZiC (k:Nat)(hk:k<s.Routes.length):Zfi s (k:Int)=s.Routes[k]:=by
 unfold Zfi;rw[Zs,ZbE hk]
def Znh (hT:Zef t=true)(hU:ZdB u=true)(h:SS t s){b:Bool}{P:List Int}{U:List ZaN}(hP:P.length<=100)(h4:U.length<=900)(hN:2000<=N):
  Zgh N ⟨⟨P,U⟩,b⟩ t u s=some (0,⟨⟨(Zfo t u ⟨b,P,U⟩ s).P,(Zfo t u ⟨b,P,U⟩ s).U⟩,(Zfo t u ⟨b,P,U⟩ s).late⟩):=by
 have g:=Zbg.1 hT;have hu:=Zbk hU;have hs:=Zei h.str;have p1:=h.per1;have p2:=h.per2;have r1:=h.r1;have r2:=h.r2;unfold Zgh Zfo;rw[Zav h.cls];simp only;rw[ZiT (by omega) (by omega),Zak];obtain⟨o,ho,eo⟩:=ZbK (body:=λx:Int×Bool×(List ZaN)=>ZfO N ⟨⟨P,U⟩,b⟩ t u s (P++[s.Period]) x.1 x.2.1 x.2.2)
  (λx=>∃k:Nat,x.1=k/\k<=s.Routes.length/\x.2.1=(b||(s.Routes.take k).any (Znq t u s))/\x.2.2=U++(s.Routes.take k).flatMap (Zdl t u (P.length:Int) s)) (λx=>(s.Routes.length-x.1).toNat)
  (λr=>r=.inl (b||s.Routes.any (Znq t u s),U++s.Routes.flatMap (Zdl t u (P.length:Int) s))) (λx hx=>by
   obtain⟨i,b',U'⟩:=x;obtain⟨k,k1,k2,k3,k4⟩:=hx;simp only at k1 k3 k4;subst k1 k3 k4;simp only[ZfO];by_cases c:k<s.Routes.length
   ·left;have hv:=h.rt _ (List.getElem_mem c);obtain⟨v1,v8,vp⟩:=Zch hv;refine⟨(((k+1:Nat):Int),b||(s.Routes.take (k+1)).any (Znq t u s),U++(s.Routes.take (k+1)).flatMap (Zdl t u (P.length:Int) s)),?_,⟨k+1,rfl,by omega,rfl,rfl⟩,by simp;omega⟩;rw[Zav (by simpa using c),Ze0 hT hU h.str h.cls (by omega) (by omega) (by omega),Zak,ZiC k c,Zn8 hT hU h.str h.cls (by omega) (by omega) (by omega),ZiC k c];simp only[Zaq,Zg,Zat,Zak];have h3:((s.Routes.take k).flatMap (Zdl t u (P.length:Int) s)).length<=8*(s.Routes.take k).length:=ZmE _ _ λr hr=>ZoQ g (h.rt r (List.mem_of_mem_take hr)) _
    have h2:(s.Routes.take k).length<=2:=by simp;omega
    obtain⟨q,hq,eq⟩:=ZbK (body:=λx:Int×(List ZaN)=>ZfN N ⟨⟨P,U⟩,b⟩ u s ((List.range s.Routes[k].length).map (Za2 t u s s.Routes[k]),0) x.1 x.2)
     (λx=>∃j:Nat,x.1=j/\j<=s.Routes[k].length/\x.2=U++(s.Routes.take k).flatMap (Zdl t u (P.length:Int) s)++(Zdl t u (P.length:Int) s s.Routes[k]).take j) (λx=>(s.Routes[k].length-x.1).toNat)
     (λr=>r=U++(s.Routes.take k).flatMap (Zdl t u (P.length:Int) s)++Zdl t u (P.length:Int) s s.Routes[k]) (λx hx=>by
      obtain⟨i,U'⟩:=x;obtain⟨j,j1,j2,j3⟩:=hx;simp only at j1 j3;subst j1 j3;simp only[ZfN];have h1:(Zdl t u (P.length:Int) s s.Routes[k]).length=s.Routes[k].length:=by simp[Zdl,Zgt]
      by_cases d:j<s.Routes[k].length
      ·left;refine⟨(((j+1:Nat):Int),U++(s.Routes.take k).flatMap (Zdl t u (P.length:Int) s)++(Zdl t u (P.length:Int) s s.Routes[k]).take (j+1)),?_,⟨j+1,rfl,by omega,rfl⟩,by simp;omega⟩;have h0:Za2 t u s s.Routes[k] j∈Zgt t u s s.Routes[k]:=List.mem_map.2 ⟨j,List.mem_range.2 d,rfl⟩;obtain⟨x2,f1,f2,f3,f4⟩:=ZAN (N:=N) hu (Zss g hu hs hv h0).1 (n:=(P.length:Int)) p1 (by omega);have eh:(Zdl t u (P.length:Int) s s.Routes[k])[j]'(by omega)=useH u (P.length:Int) s.Period (Za2 t u s s.Routes[k] j):=by simp[Zdl,Zgt]
       rw[Zav (by simpa using d),Ze6 _ d,Zak,f1,Zak,f2,Zak,f3,Zak,f4,ZiT (by simp only[ZV,Z1];omega) (by omega),Zak,ZaO (by omega),ZcJ (by omega),eh];simp only[Zx]
      right;obtain rfl:j=s.Routes[k].length:=by omega
      refine⟨U++(s.Routes.take k).flatMap (Zdl t u (P.length:Int) s)++Zdl t u (P.length:Int) s s.Routes[k],?_,rfl⟩;rw[Zau (by simp),Zae (Nat.le_of_eq h1)]) N (0,U++(s.Routes.take k).flatMap (Zdl t u (P.length:Int) s)) ⟨0,rfl,by omega,by simp⟩ (by simp;omega)
    rw[hq,Zak,eq];have hj:s.Routes[k].length-1<s.Routes[k].length:=by omega
    obtain⟨b1,b2,b3,b4⟩:=Zhe g hu hs vp v8 hj;have s1:=hu.s1;have s2:=hu.s2;rw[ZaK (x:=2*u.Slack) (by omega) (by omega),ZaK (x:=ZbC t u (Za2 t u s s.Routes[k] (s.Routes[k].length-1))+2*u.Slack) (by omega) (by omega),ZaO (by omega),ZcJ c,List.any_append,List.flatMap_append];have el:decide (ZbC t u (Za2 t u s s.Routes[k] (s.Routes[k].length-1))+2*u.Slack>s.Deadline)=Znq t u s s.Routes[k]:=rfl;rw[el];simp only[Zv,List.any_nil,Bool.or_false,List.flatMap_cons,List.flatMap_nil,List.append_nil,Zx];cases b<;>cases (s.Routes.take k).any (Znq t u s)<;>simp
   right;obtain rfl:k=s.Routes.length:=by omega
   exact⟨_,by rw[Zau (by simp)],by simp⟩) N (0,b,U) ⟨0,rfl,by omega,by simp,by simp⟩ (by simp;omega)
 rw[ho,Zak,eo]
end
end Go.Sh

