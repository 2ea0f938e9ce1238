/-Part of the proof. -/
import Derived.Test.YtlajapegdomhfaaGreatSynthHoldsBase
import Derived.Test.YtlajapegdomhfaaGreatSynthHoldsRd
import Derived.KernelRfl
set_option linter.all false
namespace Go.Sh
open Go Go.Eng
section
variable {N:Nat} {t:Zan}
theorem Zkm (g:Good t)(r:List Int)(hN:200<=N):Zdt N t r=some (ZbG t r):=by
 by_cases h:r.length<=100
 ·exact ZqD g h hN
 unfold Zdt ZbG;rw[Zaj (by simp;omega)];have:decide (r.length<=8)=false:=by simp;omega
 rw[this];simp
theorem Zke (g:Good t)(r:List Int)(hN:200<=N):Zcv N ⟨t⟩ r=some (ZbG t r):=by
 by_cases h:r.length<=100
 ·exact Zia g h hN
 unfold Zcv ZbG;rw[Zaj (by simp;omega)];have:decide (r.length<=8)=false:=by simp;omega
 rw[this];simp
theorem ZmX {r:List Int}(h:ZbG t r=true):r.length<=100:=by have:=Zb1 h;omega
theorem Zg9 (r:List Int)(hN:200<=N):ZeU N t r=some (errR t r):=by
 by_cases h:r.length<=100
 ·exact ZfN h hN
 unfold ZeU errR;rw[ZgB (by omega),Z8];cases hT:ZdW t with
 |false=>rfl
 |true=>
  simp only[Zak,Zae,Zg,Zah];rw[Zke (Za9.1 hT) r hN,Z8];cases ZbG t r<;>rfl
theorem Zqp (r:List Int)(hN:200<=N):ZeZ N t r=some (if errR t r=0 then(nd t r 0,nd t r r.length,0)else(0,0,errR t r)):=by
 by_cases he:errR t r=0
 ·rw[Zaj he];exact Zqn (ZmX (ZkE.1 he).2) hN he
 rw[Zai he];by_cases h:r.length<=100
 ·exact Zqo h hN he
 have hne:(errR t r !=0)=true:=by simpa using he
 unfold ZeZ ZeT ZdK;rw[Zg9 r hN];simp only[Z8,hne,Zak]
theorem Zpb (a b:List Int)(hN:200<=N):
  ZeV N t a b=some (if errR t a=0 then(if ZbG t b then(Zqd t a b,0)else(false,310))else(false,errR t a)):=by
 by_cases ha:a.length<=100
 ·by_cases hb:b.length<=100
  ·exact Zqr ha hb hN
  have hvb:ZbG t b=false:=by
   cases h:ZbG t b with
   |false=>rfl
   |true=>exact absurd (ZmX h) hb
  unfold ZeV ZdJ;rw[Zg9 a hN,Z8];by_cases he:errR t a=0
  ·rw[Zaj he,he];simp only[Zae,Zg,Zah];unfold Zeh;rw[Zke (Za9.1 (ZkE.1 he).1) b hN,hvb];rfl
  rw[Zai he];have:(errR t a !=0)=true:=by simpa using he
  rw[this];rfl
 have hva:ZbG t a=false:=by
  cases h:ZbG t a with
  |false=>rfl
  |true=>exact absurd (ZmX h) ha
 have he:errR t a≠0:=λe=>by have:=(ZkE.1 e).2;rw[hva]at this;cases this
 unfold ZeV ZdJ;rw[Zg9 a hN,Z8,Zai he];have:(errR t a !=0)=true:=by simpa using he
 rw[this];rfl
def inB (v l h:Int):Bool:=decide (v≥l)&&decide (v<=h)
def Zdi (u:Zar):Bool:=inB u.Grid 1 10000&&(inB u.Slack 0 1000&&(inB u.Proc 0 10000&&inB u.Cap 1542 65536))
def Zqj (t:Zan)(n:Int):Bool:=Ze5 t n&&stB t n
def Zrj (s:Zal):Bool:=
 if s.Class==7 then inB s.Period 1 240&&((s.Bucket.Burst==0)&&(s.Bucket.Rate==0))
 else if s.Class==6 then(s.Period==0)&&(inB s.Bucket.Burst s.Size 1048576&&inB s.Bucket.Rate 1 2097152)else false
def ZgR (t:Zan)(s:Zal)(r:List Int):Bool:=ZbG t r&&((nd t r 0==s.Talker)&&(nd t r r.length==s.Listener))
def Zud (t:Zan)(s:Zal):Bool:=decide (s.Routes.length<2)||Zqd t (s.Routes.getD 0 []) (s.Routes.getD 1 [])
def Zun (t:Zan)(s:Zal):Bool:=
 inB s.Id 1 4095&&(Zqj t s.Talker&&(Zqj t s.Listener&&((s.Talker !=s.Listener)&&(inB s.Size 84 1542&&inB s.Deadline 1 1099511627776))))
def lenB (s:Zal):Bool:=decide (1<=s.Routes.length)&&decide (s.Routes.length<=2)
def Zbk (t:Zan)(s:Zal):Bool:=Zun t s&&(Zrj s&&(lenB s&&(s.Routes.all (ZgR t s)&&Zud t s)))
theorem Zc3 (v l h:Int):Zbx N v l h=some (inB v l h):=rfl
theorem Zje (v l h:Int):Zc0 N v l h=some (inB v l h):=rfl
theorem Zgv (u:Zar):Zc4 N u=some (if Zdi u then 0 else 320):=by
 unfold Zc4 Zdi;simp only[Zc3,Z8];cases inB u.Grid 1 10000<;>cases inB u.Slack 0 1000<;>cases inB u.Proc 0 10000<;>cases inB u.Cap 1542 65536<;>rfl
theorem ZqC (u:Zar):Zjh N u=some (Zdi u):=by
 unfold Zjh Zdi;simp only[Zje,Z8];cases inB u.Grid 1 10000<;>cases inB u.Slack 0 1000<;>cases inB u.Proc 0 10000<;>cases inB u.Cap 1542 65536<;>rfl
theorem ZuT (g:Good t)(n:Int):inB n 0 (w64 (t.Nodes-1))=Ze5 t n:=by
 rw[ZaB (by have:=g.n2;omega) (by have:=g.n12;omega)];unfold inB Ze5
 congr 1
 exact decide_eq_decide.2 ⟨λh=>by omega,λh=>by omega⟩
theorem Zm9 (g:Good t)(n:Int):ZeC N t n=some (Zqj t n):=by
 unfold ZeC Zqj;simp only[Zc3,ZuT g,Z8];cases h:Ze5 t n with
 |false=>rfl
 |true=>simp only[Zak,Zgr g.st h,Z8,Zk]
theorem Zon (g:Good t)(n:Int):Zds N t n=some (Zqj t n):=by
 unfold Zds Zqj;simp only[Zje,ZuT g,Z8];cases h:Ze5 t n with
 |false=>rfl
 |true=>simp only[Zak,Zgr g.st h,Z8,Zk]
theorem ZoY (g:Good t)(s:Zal)(r:List Int)(hN:200<=N):ZhL N t r s.Talker s.Listener=some (ZgR t s r):=by
 unfold ZhL ZgR;rw[Zqp r hN,Z8];have hT:=Za9.2 g;by_cases he:errR t r=0
 ·rw[Zaj he,(ZkE.1 he).2];rfl
 rw[Zai he];have hv:ZbG t r=false:=by
  cases h:ZbG t r with
  |false=>rfl
  |true=>exact absurd (ZkE.2 ⟨hT,h⟩) he
 have:(errR t r==0)=false:=by simpa using he
 simp only[this,hv,Bool.false_and]
theorem ZmR {α:Type}(l:List α)(d:α)(p:α->Bool):allB l.length (λk=>p (l.getD k d))=l.all p:=by
 rw[Zf,ZbF,Zr];constructor
 ·intro h x hx;obtain⟨k,hk,rfl⟩:=List.getElem_of_mem hx;have:=h k hk
  rwa [Zbv hk]at this
 intro h k hk;rw[Zbv hk];exact h _ (List.getElem_mem hk)
theorem Zx8 {s:Zal}:inB ((List.length s.Routes:Nat):Int) 1 2=lenB s:=by
 unfold inB lenB
 congr 1<;>exact decide_eq_decide.2 ⟨λh=>by omega,λh=>by omega⟩
theorem Zm2 (g:Good t){s:Zal}(hl:lenB s=true)(hN:200<=N):ZeA N s t=some (s.Routes.all (ZgR t s)):=by
 simp only[lenB,Ze,Zag]at hl;unfold ZeA;have:=Zbc (n:=s.Routes.length) (p:=λk=>ZgR t s (s.Routes.getD k [])) (body:=λx:Int=>Zef N s t x) (bad:=.inr false) (fin:=.inl ()) (λk hk=>by
  unfold Zef;rw[Zaj (by simp;omega),Zbq hk,Z8,Zbv hk,ZoY g s _ hN,Z8,ZaE (by omega)];cases ZgR t s s.Routes[k]<;>rfl) (by unfold Zef;rw[Zai (by simp)]) (N:=N) (by omega)
 rw[this,ZmR s.Routes [] (ZgR t s)];cases s.Routes.all (ZgR t s)<;>rfl
theorem Ziz {s:Zal}(h:s.Routes.all (ZgR t s)=true){k:Nat}(hk:k<s.Routes.length):ZbG t (s.Routes.getD k [])=true/\nd t (s.Routes.getD k []) 0=s.Talker/\nd t (s.Routes.getD k []) (s.Routes.getD k []).length=s.Listener:=by
 have:=List.all_eq_true.1 h _ (List.getElem_mem hk);rw[Zbv hk];simpa only[ZgR,Ze,beq_iff_eq]using this
theorem Zm0 (g:Good t){s:Zal}(hl:lenB s=true)(hr:s.Routes.all (ZgR t s)=true)(hN:200<=N):Zez N s t=some (Zud t s):=by
 simp only[lenB,Ze,Zag]at hl;unfold Zez Zud;by_cases h2:s.Routes.length<2
 ·rw[Zaj (by simp;omega)];simp[h2]
 rw[Zai (by simp;omega),show(0:Int)=((0:Nat):Int)from rfl,show(1:Int)=((1:Nat):Int)from rfl,Zbq (by omega),Zbq (by omega)];simp only[Z8];have e0:=Ziz hr (k:=0) (by omega);have e1:=Ziz hr (k:=1) (by omega);rw[Zbv (by omega)]at e0 e1;rw[Zpb _ _ hN,Zaj (ZkE.2 ⟨Za9.2 g,e0.1⟩),e1.1,Z8,Zbv (by omega),Zbv (by omega)];simp[h2]
theorem Zj6 (g:Good t)(s:Zal)(hN:200<=N):Zf4 N t s=some (Zbk t s):=by
 unfold Zf4 ZfK ZfJ ZfI ZfH ZfG;simp only[Zc3,Z8,Zm9 g,Zx8];unfold Zbk Zun;cases inB s.Id 1 4095 with
 |false=>rfl
 |true=>
 cases Zqj t s.Talker with
 |false=>rfl
 |true=>
 cases Zqj t s.Listener with
 |false=>rfl
 |true=>
 cases h4:(s.Talker !=s.Listener)with
 |false=>simp
 |true=>
 cases h5:inB s.Size 84 1542 with
 |false=>simp
 |true=>
 cases inB s.Deadline 1 1099511627776 with
 |false=>simp
 |true=>
 have hc:ZeB N s=some (Zrj s):=by
  unfold ZeB Zrj;simp only[Zc3,Z8];by_cases c7:(s.Class==7)=true
  ·rw[Zaj c7,Zaj c7];cases inB s.Period 1 240<;>simp
  rw[Zai c7,Zai c7];by_cases c6:(s.Class==6)=true
  ·rw[Zaj c6,Zaj c6];cases s.Period==0 with
   |false=>rfl
   |true=>
    simp only[Zak];unfold ZkG Zer;simp only[Z8];simp only[inB,Ze,Zag]at h5;unfold inB;by_cases q1:s.Bucket.Burst≥s.Size
    ·have q2:(1:Int)<=s.Bucket.Burst:=by omega
     by_cases q3:s.Bucket.Burst<=1048576<;>by_cases q4:(1:Int)<=s.Bucket.Rate<;>by_cases q5:s.Bucket.Rate<=2097152<;>simp[q1,q2,q3,q4,q5,ge_iff_le]
    by_cases q2:(1:Int)<=s.Bucket.Burst<;>by_cases q3:s.Bucket.Burst<=1048576<;>by_cases q4:(1:Int)<=s.Bucket.Rate<;>by_cases q5:s.Bucket.Rate<=2097152<;>simp[q1,q2,q3,q4,q5,ge_iff_le]
  rw[Zai c6,Zai c6]
 rw[hc];cases Zrj s with
 |false=>simp
 |true=>
 cases hl:lenB s with
 |false=>simp
 |true=>
 rw[Zm2 g hl hN];cases hr:s.Routes.all (ZgR t s)with
 |false=>simp
 |true=>
 rw[Zm0 g hl hr hN];cases Zud t s<;>simp
end
end Go.Sh

namespace Go.Sh
open Go Go.Eng
theorem Zug {κ υ:Type}[DecidableEq κ](l:List (κ×υ))(x y:κ)(v z:υ):Zio (Zd6 l x v) y z=if y=x then v else Zio l y z:=by
 induction l with
 |nil=>
  unfold Zio Zto;simp only[Zd6,Zx,List.find?_nil];by_cases e:x=y
  ·subst e;simp
  simp[e,Ne.symm e]
 |cons p r ih=>
  unfold Zio Zto at ih⊢;simp only[Zd6];by_cases e:p.1=x
  ·subst e;simp only[Zak,Zx];by_cases e:p.1=y
   ·subst e;simp
   simp[e,Ne.symm e]
  simp only[e,Zah,Zx];by_cases e2:p.1=y
  ·subst e2;simp[e]
  simp only[e2,decide_false];exact ih
structure Zfr (u:Zar):Prop where
 g1:1<=u.Grid
 g2:u.Grid<=10000
 s1:0<=u.Slack
 s2:u.Slack<=1000
 p1:0<=u.Proc
 p2:u.Proc<=10000
theorem ZbC {u:Zar}(h:Zdi u=true):Zfr u:=by
 simp only[Zdi,inB,Ze,Zag]at h;obtain⟨⟨a,b⟩,⟨c,d⟩,⟨e,f⟩,_⟩:=h;exact⟨a,b,c,d,e,f⟩
def Zbn (t:Zan)(u:Zar)(h:ZaQ):Int:=h.Open+h.Long+(plk t h.Port).Delay+u.Proc
def hop0 (t:Zan)(s:Zal)(r:List Int):ZaQ:=⟨at0 r 0,0,0,0,s.Size*(plk t (at0 r 0)).Per⟩
def ZnC (u:Zar)(x:Int):Int:=(x+u.Grid-1)/u.Grid*u.Grid
def hopN (t:Zan)(u:Zar)(s:Zal)(h:ZaQ)(p:Int):ZaQ:=
 ⟨p,Zbn t u h-2*u.Slack,Zbn t u h+2*u.Slack,ZnC u (Zbn t u h+2*u.Slack),s.Size*(plk t p).Per⟩
def ZaR (t:Zan)(u:Zar)(s:Zal)(r:List Int):Nat->ZaQ
 |0=>hop0 t s r
 |k+1=>hopN t u s (ZaR t u s r k) (at0 r (k+1))
theorem Zsm {u:Zar}(h:Zfr u){x:Int}(hx:0<=x):x<=ZnC u x/\ZnC u x<x+u.Grid/\ZnC u x%u.Grid=0:=by
 unfold ZnC;have hg:=h.g1;have e:=Int.mul_ediv_add_emod (x+u.Grid-1) u.Grid;have e1:=Int.emod_nonneg (x+u.Grid-1) (show u.Grid≠0 by omega);have e2:=Int.emod_lt_of_pos (x+u.Grid-1) (show 0<u.Grid by omega);rw[Zm]at e;refine⟨by omega,by omega,?_⟩;exact Int.mul_emod_left _ _
section
variable {N:Nat} {t:Zan} {u:Zar} {s:Zal}
theorem ZgX (g:Good t){p:Int}(hp:Zcn t p=true):1<=(plk t p).Per/\(plk t p).Per<=1000/\0<=(plk t p).Delay/\(plk t p).Delay<=10000:=by
 obtain⟨h1,h2⟩:=ZwJ hp;have:=(g.links (Int.tdiv p 2).toNat (by omega)).1;simp only[Zfl,Ze,Zag]at this;exact⟨this.2.2.2.2.1,this.2.2.2.2.2.1,this.2.2.2.2.2.2.1,this.2.2.2.2.2.2.2⟩
def ZkI (s:Zal):Prop:=84<=s.Size/\s.Size<=1542
theorem ZpM (g:Good t)(hs:ZkI s){p:Int}(hp:Zcn t p=true):84<=s.Size*(plk t p).Per/\s.Size*(plk t p).Per<=1542000:=by
 obtain⟨h1,h2,_,_⟩:=ZgX g hp;obtain⟨a,b⟩:=hs;have c:s.Size*1<=s.Size*(plk t p).Per:=Int.mul_le_mul_of_nonneg_left h1 (by omega);have d:s.Size*(plk t p).Per<=s.Size*1000:=Int.mul_le_mul_of_nonneg_left h2 (by omega);omega
structure HB (t:Zan) (k:Nat) (h:ZaQ):Prop where
 port:Zcn t h.Port=true
 long1:84<=h.Long
 long2:h.Long<=1542000
 op1:0<=h.Open
 op2:h.Open<=1600000*(k:Int)
theorem HB.told (g:Good t)(hu:Zfr u){k:Nat}{h:ZaQ}(hb:HB t k h):h.Open+84<=Zbn t u h/\Zbn t u h<=1600000*(k:Int)+1562000/\h.Open+h.Long<=Zbn t u h:=by
 obtain⟨h1,h2,h3,h4,h5⟩:=hb;obtain⟨_,_,d1,d2⟩:=ZgX g h1;have:=hu.p1;have:=hu.p2;unfold Zbn;omega
theorem ZvY (k:Nat)(r:List Int):(ZaR t u s r k).Port=at0 r k:=by cases k<;>rfl
theorem ZvZ (k:Nat)(r:List Int):(ZaR t u s r k).Long=s.Size*(plk t (at0 r k)).Per:=by cases k<;>rfl
theorem ZgT (g:Good t)(hu:Zfr u)(hs:ZkI s){r:List Int}(hp:∀k,k<r.length->Zcn t (at0 r k)=true):∀k,k<r.length->HB t k (ZaR t u s r k)
 |0,hk=>by
  have:=ZpM g hs (hp 0 hk);exact⟨hp 0 hk,this.1,this.2,Int.le_refl 0,by simp[ZaR,hop0]⟩
 |k+1,hk=>by
  have ih:=ZgT g hu hs hp k (by omega);have:=ZpM g hs (hp (k+1) hk);have ht:=ih.told g hu;have h0:=ih.op1;have c:=Zsm hu (x:=Zbn t u (ZaR t u s r k)+2*u.Slack) (by have:=hu.s1;omega);have:=hu.s1;have:=hu.s2;have:=hu.g2;refine⟨hp (k+1) hk,?_,?_,?_,?_⟩
  ·show 84<=s.Size*(plk t (at0 r (k+1))).Per;omega
  ·show s.Size*(plk t (at0 r (k+1))).Per<=1542000;omega
  ·show 0<=ZnC u (Zbn t u (ZaR t u s r k)+2*u.Slack);omega
  show ZnC u (Zbn t u (ZaR t u s r k)+2*u.Slack)<=1600000*((k+1:Nat):Int);omega
def stAt (t:Zan)(u:Zar)(s:Zal)(r:List Int):Nat->ZaQ
 |0=>⟨0,0,0,0,0⟩
 |k+1=>ZaR t u s r k
theorem ZwZ {σ:Type}(g:Good t)(hu:Zfr u)(hs:ZkI s){r:List Int}(h8:r.length<=8)(hp:∀k,k<r.length->Zcn t (at0 r k)=true){k:Nat}(hk:k<r.length){y:σ->ZaQ->Option (σ×Bool)}{b b':σ}
  (hy:y b (ZaR t u s r k)=some (b',true)):ZbJ N y s t u r (k:Int) (stAt t u s r k).Port (stAt t u s r k).Early (stAt t u s r k).Late (stAt t u s r k).Open (stAt t u s r k).Long b=
   some (.inl (((k+1:Nat):Int),(ZaR t u s r k).Port,(ZaR t u s r k).Early,(ZaR t u s r k).Late,(ZaR t u s r k).Open,(ZaR t u s r k).Long,b')):=by
 have hL:t.Links.length<=1000:=by have:=g.l24;omega
 have hlen:=ZpM g hs (hp k hk);have hb:=ZgT g hu hs hp k hk;unfold ZbJ;rw[Zaj (by simp;omega),Zbq hk,Z8];have hat:r[k]=at0 r k:=(Zl9 hk).symm;have key:(if decide ((k:Int)>0)=true then(idx t.Links (w64 (Int.tdiv (stAt t u s r k).Port 2))).bind λe1020=>
    (quoI .i64 (w64 ((w64 ((w64 ((w64 ((w64 ((w64 ((stAt t u s r k).Open+(stAt t u s r k).Long))+e1020.Delay))+u.Proc))+(w64 (2*u.Slack))))+u.Grid))-1)) u.Grid).bind λq1026=>
    (some ((w64 ((w64 ((w64 ((w64 ((stAt t u s r k).Open+(stAt t u s r k).Long))+e1020.Delay))+u.Proc))-(w64 (2*u.Slack)))),(w64 ((w64 ((w64 ((w64 ((stAt t u s r k).Open+(stAt t u s r k).Long))+e1020.Delay))+u.Proc))+(w64 (2*u.Slack)))),(w64 (q1026*u.Grid))))
   else some ((stAt t u s r k).Early,(stAt t u s r k).Late,(stAt t u s r k).Open))=some ((ZaR t u s r k).Early,(ZaR t u s r k).Late,(ZaR t u s r k).Open):=by
  cases k with
  |zero=>rw[Zai (by simp)];rfl
  |succ j=>
   rw[Zaj (by simp only[Zag];omega)];have hbj:=ZgT g hu hs hp j (by omega);obtain⟨o1,o2,o3⟩:=hbj.told g hu;obtain⟨_,_,d1,d2⟩:=ZgX g hbj.port;obtain⟨g1,g2,s1,s2,p1,p2⟩:=hu;have l1:=hbj.long1;have l2:=hbj.long2;have l3:=hbj.op1;have l4:=hbj.op2;have hj:(j:Int)<=8:=by omega
   show((idx t.Links (w64 (Int.tdiv (ZaR t u s r j).Port 2))).bind λe1020=>_)=_;rw[ZnS hL hbj.port,Z8];have e1:w64 ((ZaR t u s r j).Open+(ZaR t u s r j).Long)=(ZaR t u s r j).Open+(ZaR t u s r j).Long:=ZaB (by omega) (by omega);have e2:w64 ((ZaR t u s r j).Open+(ZaR t u s r j).Long+(plk t (ZaR t u s r j).Port).Delay)=(ZaR t u s r j).Open+(ZaR t u s r j).Long+(plk t (ZaR t u s r j).Port).Delay:=ZaB (by omega) (by omega);have e3:w64 ((ZaR t u s r j).Open+(ZaR t u s r j).Long+(plk t (ZaR t u s r j).Port).Delay+u.Proc)=Zbn t u (ZaR t u s r j):=ZaB (by omega) (by omega);have e4:w64 (2*u.Slack)=2*u.Slack:=ZaB (by omega) (by omega);simp only[stAt,e1,e2,e3,e4];have e5:w64 (Zbn t u (ZaR t u s r j)+2*u.Slack)=Zbn t u (ZaR t u s r j)+2*u.Slack:=ZaB (by omega) (by omega);have e6:w64 (Zbn t u (ZaR t u s r j)-2*u.Slack)=Zbn t u (ZaR t u s r j)-2*u.Slack:=ZaB (by omega) (by omega);have e7:w64 (Zbn t u (ZaR t u s r j)+2*u.Slack+u.Grid)=Zbn t u (ZaR t u s r j)+2*u.Slack+u.Grid:=ZaB (by omega) (by omega);have e8:w64 (Zbn t u (ZaR t u s r j)+2*u.Slack+u.Grid-1)=Zbn t u (ZaR t u s r j)+2*u.Slack+u.Grid-1:=ZaB (by omega) (by omega);rw[e5,e6,e7,e8,Zjo (by omega),Z8];have hn:0<=Zbn t u (ZaR t u s r j)+2*u.Slack+u.Grid-1:=by omega
   rw[Zn hn];have q1:0<=(Zbn t u (ZaR t u s r j)+2*u.Slack+u.Grid-1)/u.Grid:=Int.ediv_nonneg hn (by omega);have q2:(Zbn t u (ZaR t u s r j)+2*u.Slack+u.Grid-1)/u.Grid<=Zbn t u (ZaR t u s r j)+2*u.Slack+u.Grid-1:=Int.ediv_le_self _ hn;have e9:IntKind.i64.wrap ((Zbn t u (ZaR t u s r j)+2*u.Slack+u.Grid-1)/u.Grid)=(Zbn t u (ZaR t u s r j)+2*u.Slack+u.Grid-1)/u.Grid:=ZaB (by omega) (by omega);have c:=Zsm ⟨g1,g2,s1,s2,p1,p2⟩ (x:=Zbn t u (ZaR t u s r j)+2*u.Slack) (by omega);have e10:w64 ((Zbn t u (ZaR t u s r j)+2*u.Slack+u.Grid-1)/u.Grid*u.Grid)=ZnC u (Zbn t u (ZaR t u s r j)+2*u.Slack):=ZaB (by unfold ZnC at c;omega) (by unfold ZnC at c;omega);rw[e9,e10];rfl
 rw[key,Z8,hat,ZnS hL (hp k hk),Z8];have e11:w64 (s.Size*(plk t (at0 r k)).Per)=s.Size*(plk t (at0 r k)).Per:=ZaB (by omega) (by omega);have e12:(ZaQ.mk (at0 r k) (ZaR t u s r k).Early (ZaR t u s r k).Late (ZaR t u s r k).Open (s.Size*(plk t (at0 r k)).Per))=ZaR t u s r k:=by
  cases k<;>rfl
 rw[e11];simp only;rw[e12,hy,Z8,ZaE (by omega)];simp only[Zi,Zg,Zah,ZvY,ZvZ]
theorem ZuV {σ:Type}(g:Good t)(hu:Zfr u)(hs:ZkI s){r:List Int}(hr:ZbG t r=true){y:σ->ZaQ->Option (σ×Bool)}(G:Nat->σ)(hy:∀k,k<r.length->y (G k) (ZaR t u s r k)=some (G (k+1),true)){kk:Int}
  (hk:idx s.Routes kk=some r) (hN:200<=N):Zdn N y s kk t u (G 0)=some (G r.length):=by
 obtain⟨h1,h8,hp⟩:=Zb1 hr;unfold Zdn;rw[hk,Z8];have key:∀(M m N k:Nat),r.length-k=m->k<=r.length->m<N->ZaI (λx:Int×Int×Int×Int×Int×Int×σ=>ZbJ M y s t u r x.1 x.2.1 x.2.2.1 x.2.2.2.1 x.2.2.2.2.1 x.2.2.2.2.2.1 x.2.2.2.2.2.2) N ((k:Int),(stAt t u s r k).Port,(stAt t u s r k).Early,(stAt t u s r k).Late,(stAt t u s r k).Open,(stAt t u s r k).Long,G k)=some (.inl (G r.length)):=by
  intro M m;induction m with
  |zero=>
   intro N k e1 e2 e3;obtain rfl:k=r.length:=by omega
   cases N with
   |zero=>omega
   |succ N=>
    rw[Za1 (r:=(.inl (G r.length)))];show ZbJ _ y s t u r ((r.length:Nat):Int) _ _ _ _ _ _=_;unfold ZbJ;rw[Zai (by simp)]
  |succ m ih=>
   intro N k e1 e2 e3;cases N with
   |zero=>omega
   |succ N=>
    have hst:=ZwZ (N:=M) g hu hs h8 hp (k:=k) (by omega) (hy k (by omega));rw[Zbw (y:=(((k+1:Nat):Int),(ZaR t u s r k).Port,(ZaR t u s r k).Early,(ZaR t u s r k).Late,(ZaR t u s r k).Open,(ZaR t u s r k).Long,G (k+1))) hst];exact ih N (k+1) (by omega) (by omega) (by omega)
 have:=key N r.length N 0 (by omega) (by omega) (by omega);rw[show((0:Nat):Int)=0 from rfl]at this;have e:(ZaI (λx:Int×Int×Int×Int×Int×Int×σ=>ZbJ N y s t u r x.1 x.2.1 x.2.2.1 x.2.2.2.1 x.2.2.2.2.1 x.2.2.2.2.2.1 x.2.2.2.2.2.2) N (0,0,0,0,0,0,G 0))=some (.inl (G r.length)):=this;rw[e];rfl
theorem Zmi (k:Int)(hN:200<=N):Ziv N t u s k=some (if ZdW t then(if Zdi u then(if Zbk t s then(if s.Class=7/\0<=k/\k<s.Routes.length then 0 else 2)else 321)else 320)else 260):=by
 unfold Ziv;rw[ZgB (by omega),Z8];cases hT:ZdW t with
 |false=>rfl
 |true=>
  simp only[Zak,Zae,Zg,Zah];rw[Zgv,Z8];cases hU:Zdi u with
  |false=>rfl
  |true=>
   simp only[Zak,Zae,Zg,Zah];rw[Zj6 (Za9.1 hT) s hN,Z8];cases hS:Zbk t s with
   |false=>rfl
   |true=>
    rw[Zai (by simp:¬(!true)=true),Zaj (rfl:true=true)];have hl:1<=s.Routes.length/\s.Routes.length<=2:=by
     simp only[Zbk,lenB,Ze,Zag]at hS;exact hS.2.2.1
    rw[ZaB (by omega) (by omega),Zc3];have hb:inB k 0 ((s.Routes.length:Int)-1)=decide (0<=k/\k<(s.Routes.length:Int)):=by
     rw[Zf];simp only[inB,Ze,Zag];omega
    rw[hb];by_cases hc:s.Class=7
    ·have h7:(s.Class !=7)=false:=by simp[hc]
     rw[h7];by_cases hk:0<=k/\k<(s.Routes.length:Int)
     ·simp only[Zaf hk,hc,hk,and_self,Zak];rfl
     simp only[decide_eq_false hk,hc,hk,and_false,Zah];rfl
    have h7:(s.Class !=7)=true:=by simp[hc]
    rw[h7];simp only[hc,false_and,Zah,Zak];rfl
def Ze0 (s:Zal)(k:Int):List Int:=s.Routes.getD k.toNat []
theorem Zdg (h:Zbk t s=true):ZkI s:=by
 simp only[Zbk,Zun,inB,Ze,Zag]at h;exact h.1.2.2.2.2.1
theorem Zlh (h:Zbk t s=true):(1<=s.Routes.length/\s.Routes.length<=2)/\s.Routes.all (ZgR t s)=true:=by
 simp only[Zbk,lenB,Ze,Zag]at h;exact⟨h.2.2.1,h.2.2.2.1⟩
theorem ZsS (h:Zbk t s=true){k:Int}(h0:0<=k)(hk:k<s.Routes.length):idx s.Routes k=some (Ze0 s k)/\ZbG t (Ze0 s k)=true:=by
 refine⟨ZbE [] h0 hk,(Ziz (Zlh h).2 (k:=k.toNat) (by omega)).1⟩
theorem ZjN (hT:ZdW t=true)(hU:Zdi u=true)(hS:Zbk t s=true){k:Int}(hc:s.Class=7)(h0:0<=k)(hk:k<s.Routes.length)(hN:200<=N):
  Zg3 N t u s k=some ((List.range (Ze0 s k).length).map (ZaR t u s (Ze0 s k)),0):=by
 obtain⟨e1,e2⟩:=ZsS hS h0 hk;have h8:=(Zb1 e2).2.1;unfold Zg3;rw[Zmi k hN,hT,hU,hS,Zaj rfl,Zaj rfl,Zaj rfl,Zaj ⟨hc,h0,hk⟩,Z8,Zai (by decide)];show(Zdn N _ s k t u []).bind _=_;have:=ZuV (N:=N) (Za9.1 hT) (ZbC hU) (Zdg hS) e2 (y:=λ(s:(List ZaQ)) (x12:ZaQ)=>Zet (λv:(List ZaQ)=>ZcC N v x12) s) (λj=>(List.range j).map (ZaR t u s (Ze0 s k))) (λj hj=>by
  show Zet (λv=>ZcC N v (ZaR t u s (Ze0 s k) j)) _=_;unfold Zet ZcC;simp only;rw[Zh5 (by simp;omega) (by omega),List.range_succ,ZT];rfl) e1 hN
 simp only[List.range_zero,ZV]at this;rw[this];rfl
theorem Zn8 (hT:ZdW t=true)(hU:Zdi u=true)(hS:Zbk t s=true){k:Int}(hc:s.Class=7)(h0:0<=k)(hk:k<s.Routes.length)(hN:200<=N):
  ZiV N t u s k=some (Zbn t u (ZaR t u s (Ze0 s k) ((Ze0 s k).length-1)),0):=by
 obtain⟨e1,e2⟩:=ZsS hS h0 hk;obtain⟨h1,h8,hp⟩:=Zb1 e2;have g:=Za9.1 hT;have hL:t.Links.length<=1000:=by have:=g.l24;omega
 unfold ZiV;rw[Zmi k hN,hT,hU,hS,Zaj rfl,Zaj rfl,Zaj rfl,Zaj ⟨hc,h0,hk⟩,Z8,Zai (by decide)];show(Zdn N _ s k t u 0).bind _=_;have:=ZuV (N:=N) g (ZbC hU) (Zdg hS) e2 (y:=λ(s:Int) (x21:ZaQ)=>Zet (λv:Int=>ZcB N t u v x21) s) (λj=>if j=0 then 0 else Zbn t u (ZaR t u s (Ze0 s k) (j-1))) (λj hj=>by
  show Zet (λv=>ZcB N t u v (ZaR t u s (Ze0 s k) j)) _=_;unfold Zet ZcB;have hb:=ZgT g (ZbC hU) (Zdg hS) hp j hj;obtain⟨o1,o2,o3⟩:=hb.told g (ZbC hU);obtain⟨_,_,d1,d2⟩:=ZgX g hb.port;have l1:=hb.long1;have l2:=hb.long2;have l3:=hb.op1;have l4:=hb.op2;have q:=(ZbC hU).p1;have q':=(ZbC hU).p2;simp only;rw[ZnS hL hb.port,Z8,ZaB (x:=(ZaR t u s (Ze0 s k) j).Open+(ZaR t u s (Ze0 s k) j).Long) (by omega) (by omega),ZaB (x:=(ZaR t u s (Ze0 s k) j).Open+(ZaR t u s (Ze0 s k) j).Long+_) (by omega) (by omega)];rw[show w64 ((ZaR t u s (Ze0 s k) j).Open+(ZaR t u s (Ze0 s k) j).Long+(plk t (ZaR t u s (Ze0 s k) j).Port).Delay+u.Proc)=Zbn t u (ZaR t u s (Ze0 s k) j)from ZaB (by omega) (by omega)];rw[Zai (Nat.succ_ne_zero j)];rfl) e1 hN
 rw[Zaj rfl]at this;rw[this,Z8,Zai (by omega)]
def dS:Zal:=⟨0,0,0,0,0,0,⟨0,0⟩,0,[]⟩
def idAt (l:List Zal)(k:Nat):Int:=(l.getD k dS).Id
def Zr5 (l:List Zal)(k:Nat):Bool:=!((List.range k).any λj=>idAt l j==idAt l k)
def allR (t:Zan)(l:List Zal):Int:=if ZdW t then(if l.length<=12 then(if l.all (Zbk t)then(if allB l.length (Zr5 l)then 0 else 322)else 321)else 3)else 260
theorem ZhN (l:List Zal)(hN:200<=N):ZdZ N t l=some (allR t l):=by
 unfold ZdZ allR;rw[ZgB (by omega),Z8];cases hT:ZdW t with
 |false=>rfl
 |true=>
  have g:=Za9.1 hT;simp only[Zak,Zae,Zg,Zah];by_cases h12:l.length<=12
  ·rw[Zai (by simp;omega),Zaj h12];have:=Zbc (n:=l.length) (p:=λk=>Zbk t (l.getD k dS)) (body:=λx:Int=>ZdS N t l x) (bad:=.inr 321) (fin:=.inl ()) (λk hk=>by
    unfold ZdS;rw[Zaj (by simp;omega),Zbq hk,Z8,Zbv hk,Zj6 g _ hN,Z8,ZaE (by omega)];cases Zbk t l[k]<;>rfl) (by unfold ZdS;rw[Zai (by simp)]) (N:=N) (by omega)
   rw[this,ZmR l dS (Zbk t)];cases l.all (Zbk t)with
   |false=>rfl
   |true=>
    simp only[Zak,Z8];have:=(ZjA (n:=l.length) (p:=Zr5 l) (f:=λ(b:List (Int×Bool)) k=>Zd6 b (idAt l k) true) (body:=λx:Int×(List (Int×Bool))=>ZbB N l x.1 x.2) (bad:=.inr 322) (fin:=λ_=>.inl ())
     (λk b=>∀x,Zio b x false=(List.range k).any λj=>idAt l j==x)
     (λk b hk hb=>by
      show ZbB N l (k:Int) b=_;unfold ZbB;rw[Zaj (by simp;omega),Zbq hk,Z8];have hid:l[k].Id=idAt l k:=by unfold idAt;rw[Zbv hk]
      rw[hid,hb,ZaE (by omega)];unfold Zr5;cases (List.range k).any λj=>idAt l j==idAt l k<;>rfl)
     (λk b hk hb _ x=>by
      rw[Zug,hb,List.range_succ,List.any_append];by_cases e:x=idAt l k
      ·subst e;simp
      have:(idAt l k==x)=false:=by simpa using Ne.symm e
      simp[e,this])
     (λb hb=>by show ZbB N l (l.length:Int) b=_;unfold ZbB;rw[Zai (by simp)]) (N:=N) (by omega) (b0:=[]) (λx=>rfl)).1
    rw[this];cases allB l.length (Zr5 l)<;>rfl
  rw[Zaj (by simp;omega),Zai h12]
end
end Go.Sh

namespace Go.Sh
open Go Go.Eng
def PF (p:Int->Bool)(k:Nat):List Int:=((List.range k).map (λ(n:Nat)=>(n:Int))).filter p
theorem Zxq (p:Int->Bool)(k:Nat):PF p (k+1)=if p (k:Int)=true then PF p k++[(k:Int)]else PF p k:=by
 unfold PF;rw[List.range_succ,ZT,List.filter_append];by_cases h:p (k:Int)=true
 ·rw[Zaj h];simp[h]
 rw[Zai h];simp[h]
theorem ZyI (p:Int->Bool)(k:Nat):(PF p k).length<=k:=by
 induction k with
 |zero=>simp[PF]
 |succ k ih=>
  rw[Zxq];split
  ·rw[ZM,ZR];omega
  omega
theorem ZL4 {p:Int->Bool}{k:Nat}{x:Int}:x∈PF p k↔0<=x/\x<k/\p x=true:=by
 unfold PF;simp only[List.mem_filter,List.mem_map,ZW];constructor
 ·rintro⟨⟨n,hn,rfl⟩,hp⟩;exact⟨by omega,by omega,hp⟩
 rintro⟨h0,h1,hp⟩;exact⟨⟨x.toNat,by omega,by omega⟩,hp⟩
section
variable {N:Nat} {t:Zan}
theorem ZpP {β ρ:Type}{n:Nat}{body:Int×β->Option ((Int×β)⊕ρ)}{fin:β->ρ}(I:Nat->β->Prop)
  (hstep:∀k b,k<n->I k b->∃b',body ((k:Int),b)=some (.inl (((k+1:Nat):Int),b'))/\I (k+1) b') (hend:∀b,I n b->body ((n:Int),b)=some (.inr (fin b))):
  ∀(m N k:Nat) (b:β),n-k=m->k<=n->m<N->I k b->∃b',ZaI body N ((k:Int),b)=some (fin b')/\I n b':=by
 intro m;induction m with
 |zero=>
  intro N k b h1 h2 h3 hb;obtain rfl:k=n:=by omega
  cases N with
  |zero=>omega
  |succ N=>exact⟨b,by rw[Za1 (hend b hb)],hb⟩
 |succ m ih=>
  intro N k b h1 h2 h3 hb;cases N with
  |zero=>omega
  |succ N=>
   obtain⟨b',s1,s2⟩:=hstep k b (by omega) hb;obtain⟨b'',i1,i2⟩:=ih N (k+1) b' (by omega) (by omega) (by omega) s2;exact⟨b'',by rw[Zbw s1,i1],i2⟩
end
end Go.Sh
namespace Go.Sh
open Go Go.Eng
def Byte (v:Int):Prop:=0<=v/\v<=255
theorem Zew {v:Int}(h:InK .u8 v):Byte v:=by
 exact h.u8
section
variable {N:Nat}
theorem ZgM {l:List Int}(hl:∀x∈l,Byte x)(hlen:l.length<=maxLen){i:Int}(h0:0<=i):∃v,Ze2 N l i=some v/\Byte v:=by
 unfold Ze2;by_cases h:i<(l.length:Int)
 ·rw[Zaj (by simpa using h),Zq9 h0 (by omega),Z8];have hb:=hl _ (List.getElem_mem (show i.toNat<l.length by omega));refine⟨_,rfl,?_⟩;obtain⟨b1,b2⟩:=hb;rw[ZaB (by omega) (by omega)];exact⟨b1,b2⟩
 rw[Zai (by simpa using h)];exact⟨0,rfl,by omega,by omega⟩
theorem ZeD {v b:Int}(hv:0<=v)(hb:0<b):∃m,remI v b=some m/\0<=m/\m<b:=by
 refine⟨v.tmod b,ZcK (by omega),?_⟩;rw[Zo hv];exact⟨Int.emod_nonneg _ (by omega),Int.emod_lt_of_pos _ hb⟩
theorem ZyK {d:ZbA}(hp:∀x∈d.Pers,Byte x)(hpl:d.Pers.length<=maxLen)(hd:∀x∈d.Delays,Byte x)(hdl:d.Delays.length<=maxLen){t:Zan}(hS:(t.Station.length:Int)=t.Nodes)(hL:t.Links.length<=24)(a b:Int)(hN:200<=N):
  ∃l:ZaK,l.A=a/\l.B=b/\(Ze5 t a=true->Ze5 t b=true->a≠b->(stB t a&&stB t b)=false->Zfl t l=true)∧
   Zbm N d t a b=some (if t.Links.length<24/\Zfl t l=true/\(allB t.Links.length λk=>!Zhr (lk t k) a b)=true then⟨t.Nodes,t.Station,t.Links++[l]⟩else t):=by
 obtain⟨v1,p1,b1⟩:=ZgM (N:=N) hp hpl (i:=(t.Links.length:Int)) (by omega);obtain⟨v2,p2,b2⟩:=ZgM (N:=N) hd hdl (i:=(t.Links.length:Int)) (by omega);obtain⟨b11,b12⟩:=b1;obtain⟨b21,b22⟩:=b2;have e1:Int.tmod v1 20=v1%20:=Zo b11;have e2:Int.tmod v2 50=v2%50:=Zo b21;have e3:w64 (1+Int.tmod v1 20)=1+v1%20:=by rw[e1,ZaB (by omega) (by omega)]
 refine⟨⟨a,b,1+v1%20,v2%50⟩,rfl,rfl,λh1 h2 h3 h4=>?_,?_⟩
 ·simp only[Zfl,h1,h2,h4,Zk,Bool.not_false,Ze,Zag];refine⟨by simp[h3],by omega,by omega,by omega,by omega⟩
 unfold Zbm;rw[p1,Z8,p2,Z8,e3,e2];by_cases h24:t.Links.length<24
 ·have:(((t.Links.length:Nat):Int)==24)=false:=by simp;omega
  rw[this];simp only[Zg,Zah];rw[Zmx hS,Z8,Z8];cases hlb:Zfl t ⟨a,b,1+v1%20,v2%50⟩with
  |false=>simp
  |true=>
   simp only[Zi,Zg,Zah];have:=Zbc (n:=t.Links.length) (p:=λk=>!Zhr (lk t k) a b) (body:=λx:Int=>Zdv N t a b x) (bad:=.inr t) (fin:=.inl ()) (λk hk=>by
    unfold Zdv;rw[Zaj (by simp;omega),Zts hk,Z8,ZlC,Z8,ZaE (by omega)];cases Zhr (lk t k) a b<;>rfl) (by unfold Zdv;rw[Zai (by simp)]) (N:=N) (by omega)
   rw[this];cases hj:allB t.Links.length (λk=>!Zhr (lk t k) a b)with
   |false=>simp
   |true=>
    simp only[Zak,Z8];rw[Zh5 (by simp;omega) (by omega)];simp[h24]
 have:(((t.Links.length:Nat):Int)==24)=true:=by simp;omega
 rw[this];simp[h24]
end
structure Mk (b n:Nat) (t:Zan):Prop where
 nodes:t.Nodes=n
 st:t.Station=(List.range n).map (λk=>decide (b<=k))
 l24:t.Links.length<=24
 links:∀k,k<t.Links.length->Zfl t (lk t k)=true/\nojB t k=true
 ends:∀k,k<t.Links.length->(lk t k).B<b
def cntA (t:Zan)(x:Int):Nat:=t.Links.countP (λl=>l.A==x)
section
variable {N b n:Nat} {t:Zan}
theorem Mk.stl (h:Mk b n t):(t.Station.length:Int)=t.Nodes:=by rw[h.st,h.nodes];simp
theorem Mk.stB (h:Mk b n t){x:Int}(h0:0<=x)(hx:x<n):stB t x=decide ((b:Int)<=x):=by
 unfold Go.Sh.stB;rw[h.st,Zz,ZH,List.getElem?_range (by omega)];simp only[Zaa,Z9];rw[Zf,decide_eq_true_iff,decide_eq_true_iff];omega
theorem Mk.node (h:Mk b n t){x:Int}:Ze5 t x=true↔0<=x/\x<n:=by rw[Zhq,h.nodes]
theorem Zd7 {l:ZaK}{k:Nat}:lk ⟨t.Nodes,t.Station,t.Links++[l]⟩ k=if k<t.Links.length then lk t k else if k=t.Links.length then l else dL:=by
 unfold lk;simp only[Zz];by_cases h:k<t.Links.length
 ·rw[Zaj h,ZA h]
 rw[Zai h,ZB (by omega)];by_cases e:k=t.Links.length
 ·subst e;simp
 rw[Zai e];have:k-t.Links.length≠0:=by omega
 cases hh:k-t.Links.length with
 |zero=>omega
 |succ m=>simp
theorem Ztt {l x:ZaK}:Zfl ⟨t.Nodes,t.Station,t.Links++[l]⟩ x=Zfl t x:=rfl
theorem Mk.add (h:Mk b n t){l:ZaK}(h24:t.Links.length<24)(hl:Zfl t l=true)(hj:(allB t.Links.length λk=>!Zhr (lk t k) l.A l.B)=true)(hb:l.B<b):Mk b n ⟨t.Nodes,t.Station,t.Links++[l]⟩ where
 nodes:=h.nodes
 st:=h.st
 l24:=by simp;omega
 links:=λk hk=>by
  simp only[ZM,ZR]at hk;rw[Ztt];unfold nojB;by_cases hlt:k<t.Links.length
  ·obtain⟨q1,q2⟩:=h.links k hlt;rw[Zd7,Zaj hlt];refine⟨q1,?_⟩;rw[←q2];unfold nojB;apply Zk6;intro j hj;rw[Zd7,Zaj (by omega)]
  obtain rfl:k=t.Links.length:=by omega
  rw[Zd7,Zai hlt,Zaj rfl];refine⟨hl,?_⟩;rw[←hj];apply Zk6;intro j hj;rw[Zd7,Zaj hj]
 ends:=λk hk=>by
  simp only[ZM,ZR]at hk;by_cases hlt:k<t.Links.length
  ·rw[Zd7,Zaj hlt];exact h.ends k hlt
  rw[Zd7,Zai hlt,Zaj (by omega)];exact hb
end
end Go.Sh

namespace Go.Sh
open Go Go.Eng
structure DOK (d:ZbA):Prop where
 br:Byte d.Bridges
 sn:Byte d.Stations
 ch:∀x∈d.Chords,Byte x
 ho:∀x∈d.Homes,Byte x
 pe:∀x∈d.Pers,Byte x
 de:∀x∈d.Delays,Byte x
 chl:d.Chords.length<=maxLen
 hol:d.Homes.length<=maxLen
 pel:d.Pers.length<=maxLen
 del:d.Delays.length<=maxLen
theorem DOK.of {d:ZbA}(h:ZlM d):DOK d:=by
 obtain⟨h1,h2,⟨h3,h4⟩,⟨h5,h6⟩,⟨h7,h8⟩,h9,h10⟩:=h;exact⟨Zew h1,Zew h2,λx hx=>Zew (h4 x hx),λx hx=>Zew (h6 x hx),λx hx=>Zew (h8 x hx),λx hx=>Zew (h10 x hx),h3,h5,h7,h9⟩
def brs (d:ZbA):Nat:=1+(d.Bridges%6).toNat
def sts (d:ZbA):Nat:=2+(d.Stations%5).toNat
section
variable {N:Nat} {d:ZbA}
theorem Zp9 (h:DOK d):w64 (1+w64 (Int.tmod d.Bridges 6))=((brs d:Nat):Int)/\1<=brs d/\brs d<=6:=by
 obtain⟨b1,b2⟩:=h.br;rw[Zo b1,ZaB (x:=d.Bridges%6) (by omega) (by omega),ZaB (by omega) (by omega)];unfold brs;omega
theorem ZoW (h:DOK d):w64 (2+w64 (Int.tmod d.Stations 5))=((sts d:Nat):Int)/\2<=sts d/\sts d<=6:=by
 obtain⟨b1,b2⟩:=h.sn;rw[Zo b1,ZaB (x:=d.Stations%5) (by omega) (by omega),ZaB (by omega) (by omega)];unfold sts;omega
theorem Mk.with (hd:DOK d){b n:Nat}{t:Zan}(h:Mk b n t){x y:Int}(hx:0<=x/\x<n)(hy:0<=y/\y<b)(hbn:b<=n)(hN:200<=N):
  ∃t',Zbm N d t x y=some t'/\Mk b n t'/\(t'=t∨∃l:ZaK,l.A=x/\l.B=y/\t'=⟨t.Nodes,t.Station,t.Links++[l]⟩)∧
   (x≠y->t.Links.length<24->(∀k,k<t.Links.length->Zhr (lk t k) x y=false)->∃l:ZaK,l.A=x/\l.B=y/\t'=⟨t.Nodes,t.Station,t.Links++[l]⟩):=by
 obtain⟨l,hA,hB,hl,e⟩:=ZyK (N:=N) hd.pe hd.pel hd.de hd.del h.stl h.l24 x y hN;refine⟨_,e,?_,?_,?_⟩
 ·split
  ·rename_i hc;exact h.add hc.1 hc.2.1 (by rw[hA,hB];exact hc.2.2) (by rw[hB];exact hy.2)
  exact h
 ·split
  ·exact .inr ⟨l,hA,hB,rfl⟩
  exact .inl rfl
 intro hne h24 hj;refine⟨l,hA,hB,Zaj ⟨h24,hl (h.node.2 hx) (h.node.2 ⟨hy.1,by omega⟩) hne ?_,ZbF.2 λk hk=>by rw[hj k hk];rfl⟩⟩;rw[h.stB hy.1 (by omega),decide_eq_false (by omega),Bool.and_false]
theorem ZmN {t:Zan}{l:ZaK}(x:Int):cntA ⟨t.Nodes,t.Station,t.Links++[l]⟩ x=cntA t x+(if l.A=x then 1 else 0):=by
 unfold cntA;simp only[List.countP_append,List.countP_cons,List.countP_nil];by_cases h:l.A=x<;>simp[h]
structure Row (b n c h:Nat) (t:Zan):Prop extends Mk b n t where
 len:c+h<=t.Links.length
 chain:∀j,j<c->(lk t j).A=j/\(lk t j).B=((j+1:Nat):Int)
 home:∀j,j<h->(lk t (c+j)).A=((b+j:Nat):Int)
theorem Row.keep {b n c h:Nat}{t:Zan}(r:Row b n c h t){l:ZaK}(hm:Mk b n ⟨t.Nodes,t.Station,t.Links++[l]⟩):Row b n c h ⟨t.Nodes,t.Station,t.Links++[l]⟩:=
 {hm with
  len:=by have:=r.len;simp;omega
  chain:=λj hj=>by rw[Zd7,Zaj (by have:=r.len;omega)];exact r.chain j hj
  home:=λj hj=>by rw[Zd7,Zaj (by have:=r.len;omega)];exact r.home j hj}
abbrev tp (x:Int×List Bool×List ZaK):Zan:=⟨x.1,x.2.1,x.2.2⟩
theorem ZyT (hd:DOK d)(hN:200<=N):ZaI (λx:Int×(List Bool)=>ZbS N d x.1 x.2) N (0,[])=some ((List.range (brs d+sts d)).map (λk=>decide (brs d<=k))):=by
 obtain⟨b1,b2,b3⟩:=Zp9 hd;obtain⟨s1,s2,s3⟩:=ZoW hd;have:=ZdQ (n:=brs d+sts d) (f:=λ_ k=>(List.range (k+1)).map (λk=>decide (brs d<=k))) (body:=λx:Int×(List Bool)=>ZbS N d x.1 x.2) (fin:=λb=>b) (λk b=>b=(List.range k).map (λk=>decide (brs d<=k)))
  (λk b hk hb=>by
   show ZbS N d k b=_;unfold ZbS;subst hb;rw[b1,s1,ZaB (show -9223372036854775808<=((brs d:Nat):Int)+((sts d:Nat):Int)by omega) (by omega),Zaj (by simp;omega),Zh5 (by simp;omega) (by omega),Z8,ZaE (by omega),List.range_succ,ZT];have:decide ((k:Int)≥((brs d:Nat):Int))=decide (brs d<=k):=by rw[Zf,decide_eq_true_iff,decide_eq_true_iff];omega
   rw[this];rfl)
  (λk b hk hb=>rfl)
  (λb hb=>by
   show ZbS N d ((brs d+sts d:Nat):Int) b=_;unfold ZbS;rw[b1,s1,ZaB (show -9223372036854775808<=((brs d:Nat):Int)+((sts d:Nat):Int)by omega) (by omega),Zai (by simp)]) (N:=N) (by omega) (b0:=[]) (by simp)
 rw[this.1,this.2]
theorem ZyS (hd:DOK d)(hN:200<=N){x:Int×List Bool×List ZaK}(hx:Mk (brs d) (brs d+sts d) (tp x))(hx0:x.2.2=[]):
  ∃x',ZaI (λx:Int×Int×(List Bool)×(List ZaK)=>ZbR N d x.1 x.2.1 x.2.2.1 x.2.2.2) N (1,x)=some x'/\Row (brs d) (brs d+sts d) (brs d-1) 0 (tp x')/\x'.2.2.length=brs d-1/\∀s,s<sts d->cntA (tp x') ((brs d+s:Nat):Int)=0:=by
 obtain⟨b1,b2,b3⟩:=Zp9 hd;obtain⟨s1,s2,s3⟩:=ZoW hd;have:=ZpP (n:=brs d) (fin:=λb:Int×List Bool×List ZaK=>b) (body:=λx:Int×Int×(List Bool)×(List ZaK)=>ZbR N d x.1 x.2.1 x.2.2.1 x.2.2.2)
  (λk b=>1<=k/\Row (brs d) (brs d+sts d) (k-1) 0 (tp b)/\b.2.2.length=k-1/\∀s,s<sts d->cntA (tp b) ((brs d+s:Nat):Int)=0)
  (λk b hk ⟨hk1,hr,hl,hc⟩=>by
   have hlen:(tp b).Links.length=k-1:=hl;obtain⟨t',w1,w2,_,w4⟩:=hr.toMk.with (N:=N) hd (x:=(k:Int)-1) (y:=(k:Int)) (by omega) (by omega) (by omega) hN;obtain⟨l,lA,lB,le⟩:=w4 (by omega) (by omega) (λj hj=>by
    have hj':j<k-1:=by omega
    obtain⟨c1,c2⟩:=hr.chain j hj';unfold Zhr;rw[c1,c2,beq_false_of_ne (show((j:Nat):Int)≠(k:Int)-1 by omega),beq_false_of_ne (show((j:Nat):Int)≠(k:Int)by omega)];rfl)
   subst le;refine⟨(b.1,b.2.1,b.2.2++[l]),?_,by omega,?_,?_,?_⟩
   ·show ZbR N d k b.1 b.2.1 b.2.2=_;unfold ZbR;rw[b1,Zaj (by simp;omega),ZaB (show -9223372036854775808<=(k:Int)-1 by omega) (by omega),w1,Z8,ZaE (by omega)]
   ·refine {w2 with len:=by simp;omega,chain:=λj hj=>?_,home:=λj hj=>by omega};show(lk ⟨(tp b).Nodes,(tp b).Station,(tp b).Links++[l]⟩ j).A=_/\_;rw[Zd7];by_cases hj':j<(tp b).Links.length
    ·rw[Zaj hj'];exact hr.chain j (by omega)
    rw[Zai hj',Zaj (by omega),lA,lB];omega
   ·simp;omega
   intro s hs;have:=ZmN (t:=tp b) (l:=l) ((brs d+s:Nat):Int);rw[show cntA (tp (b.1,b.2.1,b.2.2++[l])) _=_ from this,hc s hs,Zai (by omega)])
  (λb ⟨_,hr,_⟩=>by
   show ZbR N d ((brs d:Nat):Int) b.1 b.2.1 b.2.2=_;unfold ZbR;rw[b1,Zai (by simp)]) (brs d-1) N 1 x (by omega) (by omega) (by omega) ⟨by omega,{hx with len:=by simp,chain:=λj hj=>by omega,home:=λj hj=>by omega},by rw[hx0];rfl,λs hs=>by unfold cntA;show List.countP _ x.2.2=0;rw[hx0];rfl⟩
 obtain⟨x',e1,_,e2,e3,e4⟩:=this;exact⟨x',e1,e2,e3,e4⟩
theorem ZyR (hd:DOK d)(hN:200<=N){x:Int×List Bool×List ZaK}(hx:Row (brs d) (brs d+sts d) (brs d-1) 0 (tp x))(hl:x.2.2.length=brs d-1)(hc:∀s,s<sts d->cntA (tp x) ((brs d+s:Nat):Int)=0):
  ∃x',ZaI (λx:Int×Int×(List Bool)×(List ZaK)=>ZbQ N d x.1 x.2.1 x.2.2.1 x.2.2.2) N (0,x)=some x'/\Row (brs d) (brs d+sts d) (brs d-1) (sts d) (tp x')/\∀s,s<sts d->cntA (tp x') ((brs d+s:Nat):Int)=1:=by
 obtain⟨b1,b2,b3⟩:=Zp9 hd;obtain⟨s1,s2,s3⟩:=ZoW hd;have:=ZpP (n:=sts d) (fin:=λb:Int×List Bool×List ZaK=>b) (body:=λx:Int×Int×(List Bool)×(List ZaK)=>ZbQ N d x.1 x.2.1 x.2.2.1 x.2.2.2)
  (λk b=>Row (brs d) (brs d+sts d) (brs d-1) k (tp b)/\b.2.2.length=brs d-1+k/\∀s,s<sts d->cntA (tp b) ((brs d+s:Nat):Int)=if s<k then 1 else 0)
  (λk b hk ⟨hr,hl,hc⟩=>by
   have hlen:(tp b).Links.length=brs d-1+k:=hl;obtain⟨v,p1,p2,p3⟩:=ZgM (N:=N) hd.ho hd.hol (i:=2*(k:Int)) (by omega);obtain⟨m,m1,m2,m3⟩:=ZeD (v:=v) (b:=((brs d:Nat):Int)) p2 (by omega);obtain⟨t',w1,w2,_,w4⟩:=hr.toMk.with (N:=N) hd (x:=((brs d:Nat):Int)+(k:Int)) (y:=m) (by omega) (by omega) (by omega) hN;obtain⟨l,lA,lB,le⟩:=w4 (by omega) (by omega) (λj hj=>by
    have hB:=hr.ends j hj;have hA:(lk (tp b) j).A≠((brs d:Nat):Int)+(k:Int):=by
     by_cases hj':j<brs d-1
     ·rw[(hr.chain j hj').1];omega
     have:=hr.home (j-(brs d-1)) (by omega);rw[show brs d-1+(j-(brs d-1))=j by omega]at this;rw[this];omega
    unfold Zhr;rw[beq_false_of_ne hA,beq_false_of_ne (show(lk (tp b) j).B≠((brs d:Nat):Int)+(k:Int)by omega)];simp)
   subst le;refine⟨(b.1,b.2.1,b.2.2++[l]),?_,?_,?_,?_⟩
   ·show ZbQ N d k b.1 b.2.1 b.2.2=_;unfold ZbQ;rw[b1,s1,Zaj (by simp;omega),ZaB (show -9223372036854775808<=2*(k:Int)by omega) (by omega),p1,Z8,m1,Z8,ZaB (show -9223372036854775808<=((brs d:Nat):Int)+(k:Int)by omega) (by omega),w1,Z8,ZaE (by omega)]
   ·refine {w2 with len:=by simp;omega,chain:=λj hj=>?_,home:=λj hj=>?_}
    ·show(lk ⟨(tp b).Nodes,(tp b).Station,(tp b).Links++[l]⟩ j).A=_/\_;rw[Zd7,Zaj (by omega)];exact hr.chain j hj
    show(lk ⟨(tp b).Nodes,(tp b).Station,(tp b).Links++[l]⟩ (brs d-1+j)).A=_;rw[Zd7];by_cases hj':j<k
    ·rw[Zaj (by omega)];exact hr.home j hj'
    rw[Zai (by omega),Zaj (by omega),lA];omega
   ·simp;omega
   intro s hs;have:=ZmN (t:=tp b) (l:=l) ((brs d+s:Nat):Int);rw[show cntA (tp (b.1,b.2.1,b.2.2++[l])) _=_ from this,hc s hs];by_cases e:s=k
   ·subst e;rw[Zai (by omega),Zaj (by omega),Zaj (by omega)]
   rw[Zai (show ¬l.A=_ by omega)];by_cases h:s<k
   ·rw[Zaj h,Zaj (by omega)]
   rw[Zai h,Zai (by omega)])
  (λb ⟨hr,_⟩=>by
   show ZbQ N d ((sts d:Nat):Int) b.1 b.2.1 b.2.2=_;unfold ZbQ;rw[s1,Zai (by simp)]) (sts d) N 0 x (by omega) (by omega) (by omega) ⟨hx,by omega,λs hs=>by rw[hc s hs,Zai (by omega)]⟩
 obtain⟨x',e1,e2,e3,e4⟩:=this;exact⟨x',e1,e2,λs hs=>by rw[e4 s hs,Zaj hs]⟩
theorem ZyQ (hd:DOK d)(hN:200<=N){x:Int×List Bool×List ZaK}(hx:Row (brs d) (brs d+sts d) (brs d-1) (sts d) (tp x))(hc:∀s,s<sts d->cntA (tp x) ((brs d+s:Nat):Int)=1):
  ∃x',ZaI (λx:Int×Int×(List Bool)×(List ZaK)=>Zbu N d x.1 x.2.1 x.2.2.1 x.2.2.2) N (0,x)=some x'/\Row (brs d) (brs d+sts d) (brs d-1) (sts d) (tp x')/\∀s,s<sts d->1<=cntA (tp x') ((brs d+s:Nat):Int)/\cntA (tp x') ((brs d+s:Nat):Int)<=2:=by
 obtain⟨b1,b2,b3⟩:=Zp9 hd;obtain⟨s1,s2,s3⟩:=ZoW hd;have:=ZpP (n:=sts d) (fin:=λb:Int×List Bool×List ZaK=>b) (body:=λx:Int×Int×(List Bool)×(List ZaK)=>Zbu N d x.1 x.2.1 x.2.2.1 x.2.2.2)
  (λk b=>Row (brs d) (brs d+sts d) (brs d-1) (sts d) (tp b)/\∀s,s<sts d->1<=cntA (tp b) ((brs d+s:Nat):Int)/\cntA (tp b) ((brs d+s:Nat):Int)<=if s<k then 2 else 1)
  (λk b hk ⟨hr,hc⟩=>by
   obtain⟨v,p1,p2,p3⟩:=ZgM (N:=N) hd.ho hd.hol (i:=2*(k:Int)+1) (by omega);obtain⟨m,m1,m2,m3⟩:=ZeD (v:=v) (b:=((brs d:Nat):Int)) p2 (by omega);have hsame:∀s,s<sts d->1<=cntA (tp b) ((brs d+s:Nat):Int)/\cntA (tp b) ((brs d+s:Nat):Int)<=if s<k+1 then 2 else 1:=λs hs=>by
    obtain⟨q1,q2⟩:=hc s hs;refine⟨q1,?_⟩;split at q2<;>split<;>omega
   have hb:Zbu N d (k:Int) b.1 b.2.1 b.2.2=if(decide (Int.tmod v 3>0))=true then(Zbm N d (tp b) (((brs d:Nat):Int)+(k:Int)) m).bind λr=>some (.inl (((k+1:Nat):Int),r.Nodes,r.Station,r.Links))else some (.inl (((k+1:Nat):Int),b)):=by
    unfold Zbu;rw[b1,s1,Zaj (by simp;omega),ZaB (show -9223372036854775808<=2*(k:Int)by omega) (by omega),ZaB (show -9223372036854775808<=2*(k:Int)+1 by omega) (by omega),p1];simp only[Z8,m1,ZaB (show -9223372036854775808<=((brs d:Nat):Int)+(k:Int)by omega) (by omega),ZaE (show k<1000000 by omega)];split
    ·cases Zbm N d (tp b) (((brs d:Nat):Int)+(k:Int)) m<;>rfl
    rfl
   by_cases hv:Int.tmod v 3>0
   ·obtain⟨t',w1,w2,w3,_⟩:=hr.toMk.with (N:=N) hd (x:=((brs d:Nat):Int)+(k:Int)) (y:=m) (by omega) (by omega) (by omega) hN;refine⟨(t'.Nodes,t'.Station,t'.Links),?_,?_⟩
    ·show Zbu N d (k:Int) b.1 b.2.1 b.2.2=_;rw[hb,Zaj (by simpa using hv),w1];rfl
    rcases w3 with rfl|⟨l,lA,lB,rfl⟩
    ·exact⟨hr,hsame⟩
    refine⟨hr.keep w2,λs hs=>?_⟩;have:=ZmN (t:=tp b) (l:=l) ((brs d+s:Nat):Int);rw[show cntA (tp ((tp b).Nodes,(tp b).Station,(tp b).Links++[l])) _=_ from this];obtain⟨q1,q2⟩:=hc s hs;by_cases e:s=k
    ·subst e;rw[Zaj (by omega),Zaj (by omega)];rw[Zai (by omega)]at q2;omega
    rw[Zai (show ¬l.A=_ by omega)];exact hsame s hs
   refine⟨b,?_,hr,hsame⟩;show Zbu N d (k:Int) b.1 b.2.1 b.2.2=_;rw[hb,Zai (by simpa using hv)])
  (λb ⟨hr,_⟩=>by
   show Zbu N d ((sts d:Nat):Int) b.1 b.2.1 b.2.2=_;unfold Zbu;rw[s1,Zai (by simp)]) (sts d) N 0 x (by omega) (by omega) (by omega) ⟨hx,λs hs=>by rw[hc s hs];split<;>omega⟩
 obtain⟨x',e1,e2,e3⟩:=this;exact⟨x',e1,e2,λs hs=>by have:=e3 s hs;rw[Zaj hs]at this;exact this⟩
theorem ZyP (hd:DOK d)(hN:200<=N){x:Int×List Bool×List ZaK}(hx:Row (brs d) (brs d+sts d) (brs d-1) (sts d) (tp x))(hc:∀s,s<sts d->1<=cntA (tp x) ((brs d+s:Nat):Int)/\cntA (tp x) ((brs d+s:Nat):Int)<=2):
  ∃x',ZaI (λx:Int×Int×(List Bool)×(List ZaK)=>Zcf N d x.1 x.2.1 x.2.2.1 x.2.2.2) N (0,x)=some x'/\Row (brs d) (brs d+sts d) (brs d-1) (sts d) (tp x')/\∀s,s<sts d->1<=cntA (tp x') ((brs d+s:Nat):Int)/\cntA (tp x') ((brs d+s:Nat):Int)<=2:=by
 obtain⟨b1,b2,b3⟩:=Zp9 hd;obtain⟨s1,s2,s3⟩:=ZoW hd;refine ZbD (I:=λx:Int×Int×List Bool×List ZaK=>0<=x.1/\Row (brs d) (brs d+sts d) (brs d-1) (sts d) (tp x.2)/\∀s,s<sts d->1<=cntA (tp x.2) ((brs d+s:Nat):Int)/\cntA (tp x.2) ((brs d+s:Nat):Int)<=2) (μ:=λx=>(14-x.1).toNat)
  (Post:=λx'=>Row (brs d) (brs d+sts d) (brs d-1) (sts d) (tp x')/\∀s,s<sts d->1<=cntA (tp x') ((brs d+s:Nat):Int)/\cntA (tp x') ((brs d+s:Nat):Int)<=2) ?_ N (0,x) ⟨by omega,hx,hc⟩ (by simp;omega)
 rintro⟨i,y⟩ ⟨h0,hr,hc⟩;simp only at h0 hr hc;by_cases hi:i<12/\i+1<(d.Chords.length:Int)
 ·left;obtain⟨v1,v2⟩:=hd.ch _ (List.getElem_mem (show i.toNat<d.Chords.length by omega));obtain⟨v3,v4⟩:=hd.ch _ (List.getElem_mem (show(i+1).toNat<d.Chords.length by omega));obtain⟨m,m1,m2,m3⟩:=ZeD (b:=((brs d:Nat):Int)) v1 (by omega);obtain⟨q,q1,q2,q3⟩:=ZeD (b:=((brs d:Nat):Int)) v3 (by omega);obtain⟨t',w1,w2,w3,_⟩:=hr.toMk.with (N:=N) hd (x:=m) (y:=q) (by omega) (by omega) (by omega) hN;refine⟨(i+2,t'.Nodes,t'.Station,t'.Links),?_,⟨by simp only;omega,?_⟩,by simp only;omega⟩
  ·show Zcf N d i y.1 y.2.1 y.2.2=_;unfold Zcf;rw[ZaB (show -9223372036854775808<=i+1 by omega) (by omega),Zaj (by simp;omega),Zq9 h0 (by omega),Z8,ZaB (by omega) (by omega),b1,m1,Z8,Zq9 (by omega) (by omega),Z8,ZaB (by omega) (by omega),q1,Z8,w1,Z8,ZaB (by omega) (by omega)]
  rcases w3 with rfl|⟨l,lA,lB,rfl⟩
  ·exact⟨hr,hc⟩
  refine⟨hr.keep w2,λs hs=>?_⟩;have:=ZmN (t:=tp y) (l:=l) ((brs d+s:Nat):Int);rw[show cntA (tp ((tp y).Nodes,(tp y).Station,(tp y).Links++[l])) _=_ from this,Zai (show ¬l.A=_ by omega)];exact hc s hs
 right;refine⟨y,?_,hr,hc⟩;show Zcf N d i y.1 y.2.1 y.2.2=_;unfold Zcf;by_cases h12:i<12
 ·rw[ZaB (by omega) (by omega),Zai (by simp;omega)]
 rw[Zai (by simp;omega)]
theorem Zxb (hd:DOK d)(hN:200<=N):∃t,ZdD N d=some t/\Row (brs d) (brs d+sts d) (brs d-1) (sts d) t/\∀s,s<sts d->1<=cntA t ((brs d+s:Nat):Int)/\cntA t ((brs d+s:Nat):Int)<=2:=by
 obtain⟨b1,b2,b3⟩:=Zp9 hd;obtain⟨s1,s2,s3⟩:=ZoW hd;unfold ZdD;rw[ZyT hd hN,Z8];have e0:w64 (w64 (1+w64 (Int.tmod d.Bridges 6))+w64 (2+w64 (Int.tmod d.Stations 5)))=((brs d+sts d:Nat):Int):=by rw[b1,s1,ZaB (by omega) (by omega)];omega
 obtain⟨x2,l2,r2,k2,c2⟩:=ZyS (N:=N) hd hN (x:=(((brs d+sts d:Nat):Int),(List.range (brs d+sts d)).map (λk=>decide (brs d<=k)),[])) ⟨rfl,rfl,by simp,λk hk=>by simp at hk,λk hk=>by simp at hk⟩ rfl;rw[e0,l2,Z8];obtain⟨x3,l3,r3,c3⟩:=ZyR (N:=N) hd hN r2 k2 c2;rw[show((0:Int),x2.1,x2.2.1,x2.2.2)=(0,x2)from rfl,l3,Z8];have hring:∃x4:Int×List Bool×List ZaK,(if(decide (w64 (1+w64 (Int.tmod d.Bridges 6))>2)&&(Int.tmod d.Bridges 2==0))=true then(Zbm N d ⟨x3.1,x3.2.1,x3.2.2⟩ (w64 (w64 (1+w64 (Int.tmod d.Bridges 6))-1)) 0).bind λr=>some (r.Nodes,r.Station,r.Links)else some (x3.1,x3.2.1,x3.2.2))=some x4∧
   Row (brs d) (brs d+sts d) (brs d-1) (sts d) (tp x4)/\∀s,s<sts d->cntA (tp x4) ((brs d+s:Nat):Int)=1:=by
  by_cases hc:(decide (w64 (1+w64 (Int.tmod d.Bridges 6))>2)&&(Int.tmod d.Bridges 2==0))=true
  ·rw[Zaj hc,b1,ZaB (show -9223372036854775808<=((brs d:Nat):Int)-1 by omega) (by omega)];obtain⟨t',w1,w2,w3,_⟩:=r3.toMk.with (N:=N) hd (x:=((brs d:Nat):Int)-1) (y:=0) (by omega) (by omega) (by omega) hN;refine⟨(t'.Nodes,t'.Station,t'.Links),by rw[w1];rfl,?_⟩;rcases w3 with rfl|⟨l,lA,lB,rfl⟩
   ·exact⟨r3,c3⟩
   refine⟨r3.keep w2,λs hs=>?_⟩;have:=ZmN (t:=tp x3) (l:=l) ((brs d+s:Nat):Int);rw[show cntA (tp ((tp x3).Nodes,(tp x3).Station,(tp x3).Links++[l])) _=_ from this,Zai (show ¬l.A=_ by omega)];exact c3 s hs
  rw[Zai hc];exact⟨x3,rfl,r3,c3⟩
 obtain⟨x4,l4,r4,c4⟩:=hring;rw[l4,Z8];obtain⟨x5,l5,r5,c5⟩:=ZyQ (N:=N) hd hN r4 c4;rw[show((0:Int),x4.1,x4.2.1,x4.2.2)=(0,x4)from rfl,l5,Z8];obtain⟨x6,l6,r6,c6⟩:=ZyP (N:=N) hd hN r5 c5;rw[show((0:Int),x5.1,x5.2.1,x5.2.2)=(0,x5)from rfl,l6,Z8];exact⟨_,rfl,r6,c6⟩
end
end Go.Sh

namespace Go.Sh
open Go Go.Eng
def cntB (l:List ZaK)(x:Int):Nat:=l.countP (λl=>l.B==x)
theorem Zw2 {l:List Int}{i:Nat}{v:Int}{j:Nat}(h:i<l.length):(l.set i v).getD j 0=if j=i then v else l.getD j 0:=by
 rw[Zz,Zz,ZJ];by_cases e:j=i
 ·subst e;rw[Zaj rfl,Zaj h,Zaj rfl];rfl
 rw[Zai (Ne.symm e),Zai e]
theorem Zu9 {b:List Int}{x:Int}(h0:0<=x)(h:x<b.length){j:Nat}(hv:0<=b.getD x.toNat 0/\b.getD x.toNat 0<=1000):(bump b x).getD j 0=b.getD j 0+(if x=j then 1 else 0):=by
 unfold bump;rw[Zw2 (by omega)];by_cases e:j=x.toNat
 ·rw[Zaj e,Zaj (by omega),ZaB (by omega) (by omega),e]
 rw[Zai e,Zai (by omega)];omega
theorem Zri {m:Int}:∀(l:List ZaK) (b:List Int) (M:Nat),(b.length:Int)=m->(∀k∈l,(0<=k.A/\k.A<m)/\0<=k.B/\k.B<m)->(∀j:Nat,0<=b.getD j 0/\b.getD j 0<=M)->M+2*l.length<=900->∀j:Nat,
  (l.foldl Zp7 b).getD j 0=b.getD j 0+(l.countP (λk=>k.A==(j:Int)):Nat)+(cntB l j:Nat)
 |[],b,M,_,_,_,_,j=>by simp[cntB]
 |k::l,b,M,hb,hl,hM,hle,j=>by
  obtain⟨⟨a1,a2⟩,a3,a4⟩:=hl k (by simp);have g1:∀j:Nat,(bump b k.A).getD j 0=b.getD j 0+(if k.A=j then 1 else 0):=λj=>Zu9 a1 (by omega) (by have:=hM k.A.toNat;simp only[ZN]at hle;omega)
  have g2:∀j:Nat,(Zp7 b k).getD j 0=b.getD j 0+(if k.A=j then 1 else 0)+(if k.B=j then 1 else 0):=λj=>by
   unfold Zp7;rw[Zu9 a3 (by rw[Zu7];omega) (by rw[g1];have:=hM k.B.toNat;simp only[ZN]at hle;split<;>omega),g1]
  rw[Zy,Zri l (Zp7 b k) (M+2) (by rw[Zp6];exact hb) (λk hk=>hl k (by simp[hk])) (λj=>by rw[g2];have:=hM j;split<;>split<;>omega) (by simp only[ZN]at hle;omega) j,g2];simp only[cntB,List.countP_cons];by_cases e1:k.A=(j:Int)<;>by_cases e2:k.B=(j:Int)<;>simp[e1,e2]<;>omega
theorem ZqX {l:List Bool}{k:ZaK}{x:Nat}(h:l.getD x false=true):(Ziy l k).getD x false=true:=by
 unfold Ziy;split
 ·exact ZjB (ZjB h)
 exact h
theorem Zrc {x:Nat}:∀(ks:List ZaK) {l:List Bool},l.getD x false=true->(ks.foldl Ziy l).getD x false=true
 |[],l,h=>h
 |k::ks,l,h=>Zrc ks (ZqX h)
theorem ZjC {l:List Bool}{i:Nat}(h:i<l.length):(l.set i true).getD i false=true:=by
 rw[Zz,ZJ,Zaj rfl,Zaj h];rfl
theorem ZqY {l:List Bool}{k:ZaK}(h:l.getD k.A.toNat false=true∨l.getD k.B.toNat false=true)(hA:k.A.toNat<l.length)(hB:k.B.toNat<l.length):(Ziy l k).getD k.A.toNat false=true/\(Ziy l k).getD k.B.toNat false=true:=by
 unfold Ziy;rw[Zaj (by rcases h with h|h<;>rw[h]<;>simp)];exact⟨ZjB (ZjC hA),ZjC (by simpa using hB)⟩
theorem Zpc (ks:List ZaK)(l:List Bool):(ks.foldl Ziy l).length=l.length:=by
 induction ks generalizing l with
 |nil=>rfl
 |cons k ks ih=>rw[Zy,ih,Zo5]
section
variable {b n c h:Nat} {t:Zan}
theorem Zi3 (t:Zan)(l:List Bool):Zkc t l=t.Links.foldl Ziy l:=ZpV dL t.Links Ziy l
theorem Row.round (r:Row b n (b-1) (n-b) t)(hb:1<=b)(hbn:b<=n){l:List Bool}(hl:l.length=n)(h0:l.getD 0 false=true):∀x,x<n->(Zkc t l).getD x false=true:=by
 have hnodes:∀k,k<t.Links.length->(0<=(lk t k).A/\(lk t k).A<n)/\0<=(lk t k).B/\(lk t k).B<n:=λk hk=>by
  have:=ZcV (r.links k hk).1;exact⟨r.toMk.node.1 this.1,r.toMk.node.1 this.2.1⟩
 have hlen:=r.len;have step:∀k,k<=t.Links.length->∀x,x<n->(x<b/\x<=k)∨(b<=x/\b-1+(x-b)<k)->((t.Links.take k).foldl Ziy l).getD x false=true:=by
  intro k;induction k with
  |zero=>
   intro _ x hx hc;rcases hc with⟨h1,h2⟩|⟨h1,h2⟩
   ·obtain rfl:x=0:=by omega
    simpa using h0
   omega
  |succ k ih=>
   intro hk x hx hc;have htk:t.Links.take (k+1)=t.Links.take k++[lk t k]:=by
    have:lk t k=t.Links[k]:=by simp[lk,Zz,show k<t.Links.length by omega]
    rw[this,List.take_append_getElem]
   rw[htk,List.foldl_append,Zy,List.foldl_nil];have hfl:((t.Links.take k).foldl Ziy l).length=n:=by rw[Zpc,hl]
   obtain⟨⟨n1,n2⟩,n3,n4⟩:=hnodes k (by omega);by_cases hold:(x<b/\x<=k)∨(b<=x/\b-1+(x-b)<k)
   ·exact ZqX (ih (by omega) x hx hold)
   rcases hc with⟨h1,h2⟩|⟨h1,h2⟩
   ·have hk1:x=k+1:=by omega
    obtain⟨c1,c2⟩:=r.chain k (by omega);have:=ZqY (k:=lk t k) (l:=(t.Links.take k).foldl Ziy l) (.inl (by rw[c1];exact ih (by omega) k (by omega) (.inl ⟨by omega,by omega⟩))) (by omega) (by omega);have e:=this.2;rw[c2]at e;rw[hk1];exact e
   have hk1:k=b-1+(x-b):=by omega
   have c1:=r.home (x-b) (by omega);rw[←hk1]at c1;have hB:=r.ends k (by omega);have:=ZqY (k:=lk t k) (l:=(t.Links.take k).foldl Ziy l) (.inr (ih (by omega) (lk t k).B.toNat (by omega) (.inl ⟨by omega,by omega⟩))) (by omega) (by omega);have e:=this.1;rw[c1]at e
   rwa [show(((b+(x-b):Nat):Int)).toNat=x by omega]at e
 intro x hx;rw[Zi3];have:=step t.Links.length (Nat.le_refl _) x hx (by
  by_cases hxb:x<b
  ·exact .inl ⟨hxb,by omega⟩
  exact .inr ⟨by omega,by omega⟩)
 rwa [Z3]at this
theorem Row.reach (r:Row b n (b-1) (n-b) t)(hb:1<=b)(hbn:b<=n)(hn:1<=n):∀x,x<n->(Zhk t 0).getD x false=true:=by
 have hnod:t.Nodes.toNat=n:=by rw[r.nodes];omega
 unfold Zhk;rw[hnod];have hall:∀m,1<=m->∀x,x<n->((List.range m).foldl (λl _=>Zkc t l) ((List.replicate n false).set (0:Int).toNat true)).getD x false=true/\((List.range m).foldl (λl _=>Zkc t l) ((List.replicate n false).set (0:Int).toNat true)).length=n:=by
  intro m hm;induction m with
  |zero=>omega
  |succ m ih=>
   intro x hx;rw[List.range_succ,List.foldl_append,Zy,List.foldl_nil];by_cases hm0:m=0
   ·subst hm0;refine⟨r.round hb hbn (by simp) (ZjC (by simp;omega)) x hx,?_⟩;rw[Zi3,Zpc];simp
   obtain⟨i1,i2⟩:=ih (by omega) x hx;exact⟨by rw[Zi3];exact Zrc _ i1,by rw[Zi3,Zpc];exact i2⟩
 exact λx hx=>(hall n hn x hx).1
theorem Row.good (r:Row b n (b-1) (n-b) t)(hb:1<=b)(hbn:b+1<=n)(hn12:n<=12)(hc:∀s,s<n-b->1<=cntA t ((b+s:Nat):Int)/\cntA t ((b+s:Nat):Int)<=2):Good t:=by
 have hnod:t.Nodes.toNat=n:=by rw[r.nodes];omega
 refine⟨by rw[r.nodes];omega,by rw[r.nodes];omega,r.stl,r.l24,r.links,λx hx=>?_⟩;rw[hnod]at hx;refine⟨r.reach hb (by omega) (by omega) x hx,?_⟩;unfold degB;rw[r.stB (by omega) (by omega)];by_cases hxb:(b:Int)<=(x:Int)
 ·have hd:(degs t).getD x 0=(cntA t (x:Int):Nat)+(cntB t.Links x:Nat):=by
   have e0:degs t=t.Links.foldl Zp7 (List.replicate n 0):=by rw[←hnod];exact ZpV dL t.Links Zp7 _
   rw[e0];have hz:∀j:Nat,(List.replicate n (0:Int)).getD j 0=0:=λj=>by
    rw[Zz,ZI];split<;>rfl
   have:=Zri (m:=(n:Int)) t.Links (List.replicate n 0) 0 (by simp) (λk hk=>by
    obtain⟨i,hi,rfl⟩:=List.getElem_of_mem hk;have e:lk t i=t.Links[i]:=by simp[lk,Zz,hi]
    have:=ZcV (r.links i hi).1;rw[e]at this;exact⟨r.toMk.node.1 this.1,r.toMk.node.1 this.2.1⟩) (λj=>by rw[hz];omega) (by have:=r.l24;omega) x
   rw[this,hz];unfold cntA;omega
  have hB0:cntB t.Links x=0:=by
   unfold cntB;rw[List.countP_eq_zero];intro k hk;obtain⟨i,hi,rfl⟩:=List.getElem_of_mem hk;have e:lk t i=t.Links[i]:=by simp[lk,Zz,hi]
   have:=r.ends i hi;rw[e]at this;simp;omega
  have:=hc (x-b) (by omega);rw[show((b+(x-b):Nat):Int)=(x:Int)by omega]at this;rw[Zaf hxb,hd,hB0,Zaf (by omega),Zaf (by omega)];rfl
 rw[decide_eq_false hxb];rfl
theorem Row.port (r:Row b n (b-1) (n-b) t)(hb:1<=b)(hbn:b+1<=n){x:Int}(h0:0<=x)(hx:x<n):∃k,k<t.Links.length/\((lk t k).A=x∨(lk t k).B=x):=by
 have hlen:=r.len;by_cases hxb:x<b
 ·by_cases hx1:x.toNat<b-1
  ·exact⟨x.toNat,by omega,.inl (by rw[(r.chain x.toNat hx1).1];omega)⟩
  by_cases hb1:b=1
  ·
   have h1:=r.home 0 (by omega);have h2:=r.ends (b-1+0) (by omega);have h3:=ZcV (r.links (b-1+0) (by omega)).1;have h4:=r.toMk.node.1 h3.2.1;exact⟨b-1+0,by omega,.inr (by omega)⟩
  have:=r.chain (b-2) (by omega);exact⟨b-2,by omega,.inr (by rw[this.2];omega)⟩
 have:=r.home (x.toNat-b) (by omega);exact⟨b-1+(x.toNat-b),by omega,.inl (by rw[this];omega)⟩
end
theorem Zv3 {N:Nat}{d:ZbA}(hd:DOK d)(hN:200<=N):∃t,ZdD N d=some t/\Good t/\∀x:Int,0<=x->x<t.Nodes->∃k,k<t.Links.length/\((lk t k).A=x∨(lk t k).B=x):=by
 obtain⟨_,b2,b3⟩:=Zp9 hd;obtain⟨_,s2,s3⟩:=ZoW hd;obtain⟨t,e,r,c⟩:=Zxb (N:=N) hd hN;have hr:Row (brs d) (brs d+sts d) (brs d-1) (brs d+sts d-brs d) t:=by rw[show brs d+sts d-brs d=sts d by omega];exact r
 refine⟨t,e,hr.good b2 (by omega) (by omega) (λs hs=>c s (by omega)),λx h0 hx=>?_⟩;rw[r.nodes]at hx;exact hr.port b2 (by omega) h0 hx
end Go.Sh

namespace Go.Sh
open Go Go.Eng
section
variable {N:Nat} {t:Zan}
theorem ZqH (g:Good t)(x:Int)(hN:200<=N):Zhh N t x=some (PF (λp=>frm t p==x) (2*t.Links.length)):=by
 have h24:=g.l24;unfold Zhh;have:=ZdQ (n:=2*t.Links.length) (f:=λb k=>PF (λp=>frm t p==x) (k+1)) (body:=λy:Int×(List Int)=>ZdP N t x y.1 y.2) (fin:=λb=>b) (λk b=>b=PF (λp=>frm t p==x) k)
  (λk b hk hb=>by
   show ZdP N t x k b=_;unfold ZdP;subst hb;have:=ZyI (λp=>frm t p==x) k;have hp:Zcn t (k:Int)=true:=by simp only[Zcn,Ze,Zag];omega
   rw[Zaj (by rw[ZaB (by omega) (by omega)];simp;omega),Zel (by omega) hp,Z8,Zxq,ZaE (by omega)];cases (frm t (k:Int)==x)with
   |false=>rfl
   |true=>simp only[Zak];rw[Zh5 (by rw[ZR];omega) (by omega)];rfl)
  (λk b hk hb=>rfl)
  (λb hb=>by show ZdP N t x ((2*t.Links.length:Nat):Int) b=_;unfold ZdP;rw[Zai (by rw[ZaB (by omega) (by omega)];simp)]) (N:=N) (by omega) (b0:=[]) rfl
 rw[this.1,Z8,this.2]
theorem ZwB (g:Good t){seen Q:List Int}(hs:seen.length<=100)(hQ:Q.length<=100)(hp:∀p∈Q,Zcn t p=true)(hN:200<=N):
  ZaI (λx:Int×(List Int)=>Zb0 N t seen Q x.1 x.2) N (0,[])=some (Q.filter λp=>!seen.contains (too t p)):=by
 have hL:t.Links.length<=1000:=by have:=g.l24;omega
 have:=ZdQ (n:=Q.length) (f:=λb k=>(Q.take (k+1)).filter λp=>!seen.contains (too t p)) (body:=λx:Int×(List Int)=>Zb0 N t seen Q x.1 x.2) (fin:=λb=>b) (λk b=>b=(Q.take k).filter λp=>!seen.contains (too t p))
  (λk b hk hb=>by
   show Zb0 N t seen Q k b=_;unfold Zb0;subst hb;have hlen:((Q.take k).filter λp=>!seen.contains (too t p)).length<=100:=Nat.le_trans (List.length_filter_le _ _) (by simp;omega);have htk:Q.take (k+1)=Q.take k++[Q[k]]:=by rw[List.take_append_getElem]
   rw[Zaj (by simp;omega),Zbq hk,Z8,ZeW hL (hp _ (List.getElem_mem hk)),Z8,Zjl (by omega) (by omega),Z8,htk,List.filter_append,ZaE (by omega)];cases hc:seen.contains (too t Q[k])with
   |true=>
    have:[Q[k]].filter (λp=>!seen.contains (too t p))=[]:=by rw[List.filter_cons_of_neg (by rw[hc];simp)];rfl
    rw[this,List.append_nil];rfl
   |false=>
    have:[Q[k]].filter (λp=>!seen.contains (too t p))=[Q[k]]:=by rw[List.filter_cons_of_pos (by rw[hc];rfl)];rfl
    rw[this];simp only[Bool.not_false,Zak,Z8];rw[Zh5 (by rw[ZR];omega) (by omega)];rfl)
  (λk b hk hb=>rfl)
  (λb hb=>by show Zb0 N t seen Q Q.length b=_;unfold Zb0;rw[Zai (by simp)]) (N:=N) (by omega) (b0:=[]) (by simp)
 rw[this.1,this.2,Z3]
theorem ZnD {r:List Int}{p:Int}{k:Nat}:at0 (r++[p]) k=if k<r.length then at0 r k else if k=r.length then p else 0:=by
 unfold at0;simp only[Zz];by_cases h:k<r.length
 ·rw[Zaj h,ZA h]
 rw[Zai h,ZB (by omega)];by_cases e:k=r.length
 ·subst e;simp
 rw[Zai e];cases hh:k-r.length with
 |zero=>omega
 |succ m=>simp
theorem ZvE {r:List Int}{p m:Int}(hm:r≠[]->frm t (at0 r 0)=m)(h0:r=[]->frm t p=m):Zbj t (r++[p])=(m::r.map (too t))++[too t p]:=by
 unfold Zbj;rw[ZnD,ZT];by_cases h:r=[]
 ·subst h;simp[h0 rfl]
 have:0<r.length:=List.length_pos_iff.2 h;rw[Zaj this,hm h];rfl
theorem ZwM {r:List Int}{p m:Int}(hm:r≠[]->frm t (at0 r 0)=m)(h0:r=[]->frm t p=m)(hok:∀k,k<r.length->okAt t r k=true)(hp:Zcn t p=true)
  (hf:frm t p=(m::r.map (too t)).getD r.length 0) (hst:r≠[]->stB t (frm t p)=false) (hnew:(m::r.map (too t)).contains (too t p)=false):∀k,k<(r++[p]).length->okAt t (r++[p]) k=true:=by
 have hN:=ZvE (t:=t) hm h0;have hlen:(m::r.map (too t)).length=r.length+1:=by simp
 have hnd:∀k,k<=r.length->nd t (r++[p]) k=(m::r.map (too t)).getD k 0:=λk hk=>by
  unfold nd;rw[hN,Zz,ZA (by omega),Zz]
 have hlast:nd t (r++[p]) (r.length+1)=too t p:=by
  unfold nd;rw[hN,Zz,ZB (by omega)];simp
 have hold:r≠[]->Zbj t r=m::r.map (too t):=λh=>by unfold Zbj;rw[hm h]
 intro k hk;simp only[ZM,ZR]at hk;unfold okAt;rw[ZnD];by_cases hlt:k<r.length
 ·have hne:r≠[]:=by intro e;subst e;simp at hlt
  rw[Zaj hlt];have:=hok k hlt;unfold okAt at this;have e1:nd t (r++[p]) k=nd t r k:=by rw[hnd k (by omega)];unfold nd;rw[hold hne]
  have e2:nd t (r++[p]) (k+1)=nd t r (k+1):=by rw[hnd (k+1) (by omega)];unfold nd;rw[hold hne]
  have e3:(Zbj t (r++[p])).take (k+1)=(Zbj t r).take (k+1):=by rw[hN,hold hne,Z2 (by omega)]
  rw[e1,e2,e3];exact this
 obtain rfl:k=r.length:=by omega
 rw[Zai hlt,Zaj rfl,hlast,hnd _ (Nat.le_refl _),←hf,hp,hN,Z2 (by omega),Z4 (by omega),hnew];by_cases h:r=[]
 ·subst h;rfl
 rw[hst h];simp
theorem Zvu (g:Good t)(hdeg:∀x:Int,0<=x->x<t.Nodes->∃k,k<t.Links.length/\((lk t k).A=x∨(lk t k).B=x)){n k:Int}(hn:Byte n)(hk:Byte k)(hN:200<=N):∃r,ZkR N t n k=some r/\ZbG t r=true:=by
 have hL:t.Links.length<=1000:=by have:=g.l24;omega
 have h24:=g.l24;have hn2:=g.n2;obtain⟨n0,n1⟩:=hn;obtain⟨k0,k1⟩:=hk;unfold ZkR;rw[ZaB (by omega) (by omega)];obtain⟨m,m1,m2,m3⟩:=ZeD (v:=n) (b:=t.Nodes) n0 (by omega);rw[m1,Z8];have key:∃o,ZaI (λx:Int×(List Int)×(List Int)=>Zfh N t k x.1 x.2.1 x.2.2) N (m,[m],[])=some o/\∃r,(o=.inl r∨o=.inr r)/\ZbG t r=true:=by
  refine ZbD (I:=λx:Int×List Int×List Int=>x.2.2.length<=8/\x.2.1=m::x.2.2.map (too t)/\x.1=x.2.1.getD x.2.2.length 0/\(x.2.2≠[]->frm t (at0 x.2.2 0)=m)/\(∀j,j<x.2.2.length->okAt t x.2.2 j=true)/\Ze5 t x.1=true)
   (μ:=λx=>8-x.2.2.length) (Post:=λo:List Int⊕List Int=>∃r,(o=.inl r∨o=.inr r)/\ZbG t r=true) ?_ N (m,[m],[]) ⟨by simp,by simp,by simp,λh=>absurd rfl h,λj hj=>by simp at hj,Zhq.2 ⟨m2,m3⟩⟩ (by simp;omega)
  rintro⟨a,seen,out⟩ ⟨i1,i2,i3,i4,i5,i6⟩;simp only at i1 i2 i3 i4 i5 i6;have hval:out≠[]->ZbG t out=true:=λh=>by
   have:0<out.length:=List.length_pos_iff.2 h;simp only[ZbG,Ze,Zag,ZbF];exact⟨this,i1,i5⟩
  have hcond:(if decide (((List.length out:Nat):Int)<8)=true then if(((List.length out:Nat):Int)==0)=true then some true else(idx t.Station a).bind λe517=>some (!e517)else some false)=some (decide (out.length<8)&&(decide (out.length=0)||!stB t a)):=by
   rw[Zgr g.st i6];by_cases h8:out.length<8
   ·rw[Zaj (by simp;omega),Zaf h8];by_cases h0:out.length=0
    ·rw[Zaj (by simp[h0]),Zaf h0];rfl
    rw[Zai (by simp;intro e;rw[e]at h0;exact h0 rfl),decide_eq_false h0];rfl
   rw[Zai (by simp;omega),decide_eq_false h8];rfl
  have hseen:seen.length=out.length+1:=by rw[i2];simp
  have hbody:Zfh N t k a seen out=(some (decide (out.length<8)&&(decide (out.length=0)||!stB t a))).bind λj=>if j=true then(Zhh N t a).bind λr521=>(ZaI (λx:Int×(List Int)=>Zb0 N t seen r521 x.1 x.2) N (0,[])).bind λo1547=>
    if(((List.length o1547:Nat):Int)==0)=true then some (.inr (.inr out))else(remI (w64 (w64 k+w64 (3*((List.length out:Nat):Int)))) ((List.length o1547:Nat):Int)).bind λm1552=>(idx o1547 m1552).bind λe1553=>(appI 8 out [e1553]).bind λl1558=>(Zek N t e1553).bind λr1559=>(appI 8 seen [r1559]).bind λl1562=>some (.inl (r1559,l1562,l1558))
    else some (.inr (.inl out)):=by
   unfold Zfh;rw[hcond]
  show(∃y,Zfh N t k a seen out=some (.inl y)/\_/\_)∨_;rw[hbody,Z8];cases hj:(decide (out.length<8)&&(decide (out.length=0)||!stB t a))with
  |false=>
   right;refine⟨_,rfl,out,.inl rfl,hval λe=>?_⟩;subst e;simp at hj
  |true=>
   simp only[Ze,Zag,Zj,Zh]at hj;have hpq:∀p,p∈PF (λp=>frm t p==a) (2*t.Links.length)↔Zcn t p=true/\frm t p=a:=λp=>by
    rw[ZL4,beq_iff_eq];simp only[Zcn,Ze,Zag];constructor
    ·rintro⟨h1,h2,h3⟩;exact⟨⟨h1,by omega⟩,h3⟩
    rintro⟨⟨h1,h2⟩,h3⟩;exact⟨h1,by omega,h3⟩
   have hql:=ZyI (λp=>frm t p==a) (2*t.Links.length);rw[Zaj rfl,ZqH g a hN,Z8,ZwB g (by omega) (by omega) (λp hp=>((hpq p).1 hp).1) hN,Z8];have hmem:∀p,p∈(PF (λp=>frm t p==a) (2*t.Links.length)).filter (λp=>!seen.contains (too t p))↔Zcn t p=true/\frm t p=a/\seen.contains (too t p)=false:=λp=>by
    rw[List.mem_filter,hpq,Zh,and_assoc]
   have hll:((PF (λp=>frm t p==a) (2*t.Links.length)).filter (λp=>!seen.contains (too t p))).length<=100:=Nat.le_trans (List.length_filter_le _ _) (by omega);generalize (PF (λp=>frm t p==a) (2*t.Links.length)).filter (λp=>!seen.contains (too t p))=next at hmem hll
   by_cases hz:next.length=0
   ·right;rw[Zaj (by simp[hz])];refine⟨_,rfl,out,.inr rfl,hval λe=>?_⟩;subst e;have ham:a=m:=by rw[i3,i2];rfl
    obtain⟨q,hq1,hq2⟩:=hdeg m m2 m3;have hlink:=ZcV (g.links q hq1).1;have hx:∃p,Zcn t p=true/\frm t p=m/\too t p≠m:=by
     rcases hq2 with h|h
     ·refine⟨2*(q:Int),by simp only[Zcn,Ze,Zag];omega,?_,?_⟩
      ·unfold frm plk;rw[show Int.tmod (2*(q:Int)) 2=0 by rw[Zo (by omega)];omega,show(Int.tdiv (2*(q:Int)) 2).toNat=q by rw[Zn (by omega)];omega];simpa[lk]using h
      unfold too plk;rw[show Int.tmod (2*(q:Int)) 2=0 by rw[Zo (by omega)];omega,show(Int.tdiv (2*(q:Int)) 2).toNat=q by rw[Zn (by omega)];omega];have:(lk t q).B≠m:=λe=>hlink.2.2 (by rw[h,e])
      simpa[lk]using this
     refine⟨2*(q:Int)+1,by simp only[Zcn,Ze,Zag];omega,?_,?_⟩
     ·unfold frm plk;rw[show Int.tmod (2*(q:Int)+1) 2=1 by rw[Zo (by omega)];omega,show(Int.tdiv (2*(q:Int)+1) 2).toNat=q by rw[Zn (by omega)];omega];simpa[lk]using h
     unfold too plk;rw[show Int.tmod (2*(q:Int)+1) 2=1 by rw[Zo (by omega)];omega,show(Int.tdiv (2*(q:Int)+1) 2).toNat=q by rw[Zn (by omega)];omega];have:(lk t q).A≠m:=λe=>hlink.2.2 (by rw[h,e])
     simpa[lk]using this
    obtain⟨p,p1,p2,p3⟩:=hx;have:p∈next:=(hmem p).2 ⟨p1,by rw[ham];exact p2,by rw[i2];simp[p3]⟩
    rw[List.eq_nil_of_length_eq_zero hz]at this;cases this
   left;rw[Zai (by simp;intro e;rw[e]at hz;exact hz rfl)];have hv:0<=w64 (w64 k+w64 (3*((List.length out:Nat):Int))):=by
    rw[ZaB (x:=k) (by omega) (by omega),ZaB (x:=3*((List.length out:Nat):Int)) (by omega) (by omega),ZaB (by omega) (by omega)];omega
   obtain⟨q,q1,q2,q3⟩:=ZeD (b:=((List.length next:Nat):Int)) hv (by omega);rw[q1,Z8,Zq9 q2 (by omega),Z8];have hin:next[q.toNat]'(by omega)∈next:=List.getElem_mem _
   generalize next[q.toNat]'(by omega)=p at hin
   obtain⟨p1,p2,p3⟩:=(hmem p).1 hin;rw[Zh5 (by simp;omega) (by omega),Z8,ZeW hL p1,Z8,Zh5 (by simp;omega) (by omega),Z8];have hne:=Zhv g p1;have hlen1:(out++[p]).length=out.length+1:=by simp
   refine⟨_,rfl,⟨?_,?_,?_,?_,?_,hne.2.1⟩,?_⟩
   ·simp only;omega
   ·simp only;rw[i2];simp
   ·simp only;rw[hlen1,Zz,ZB (by omega)];simp[hseen]
   ·simp only;intro _;rw[ZnD];by_cases h0:0<out.length
    ·rw[Zaj h0];exact i4 (List.length_pos_iff.1 h0)
    have:out=[]:=List.eq_nil_of_length_eq_zero (by omega);subst this;rw[Zai (by simp),Zaj (by simp),p2,i3,i2];rfl
   ·simp only;refine ZwM i4 (λh=>?_) i5 p1 ?_ (λh=>?_) ?_
    ·subst h;rw[p2,i3,i2];rfl
    ·rw[p2,i3,i2]
    ·rw[p2];rcases hj.2 with h'|h'
     ·exact absurd (List.eq_nil_of_length_eq_zero h') h
     exact h'
    rw[←i2];exact p3
   simp only;omega
 obtain⟨o,o1,r,o2,o3⟩:=key;rw[o1,Z8];rcases o2 with rfl|rfl
 ·exact⟨r,rfl,o3⟩
 exact⟨r,rfl,o3⟩
end
end Go.Sh

namespace Go.Sh
open Go Go.Eng
theorem Zrv (x:Int):Byte (IntKind.u8.wrap x):=by
 unfold Byte IntKind.wrap;simp only[IntKind.bits,IntKind.signed];have h1:=Int.emod_nonneg x (show(2 ^ 8:Int)≠0 by decide);have h2:=Int.emod_lt_of_pos x (show(0:Int)<2 ^ 8 by decide);simp only[Bool.false_and,Zg,Zah];constructor<;>omega
section
variable {N:Nat} {t:Zan} {s:Zal}
theorem ZuS {r:List Int}(h1:1<=r.length)(h:r.length<=100):idx r (w64 (((List.length r:Nat):Int)-1))=some (at0 r (r.length-1)):=by
 rw[ZaB (by omega) (by omega),show((List.length r:Nat):Int)-1=((r.length-1:Nat):Int)by omega,Zbq (by omega),Zl9 (by omega)]
theorem Zsh {r:List Int}(h1:1<=r.length):idx r 0=some (at0 r 0):=by
 rw[show(0:Int)=((0:Nat):Int)from rfl,Zbq (by omega),Zl9 (by omega)]
theorem ZzP {r:List Int}(h1:1<=r.length):nd t r r.length=too t (at0 r (r.length-1)):=by
 have:=Zin (t:=t) (r:=r) (k:=r.length-1) (by omega)
 rwa [show r.length-1+1=r.length by omega]at this
theorem ZqA (g:Good t)(s:Zal)(r:List Int)(hN:200<=N):
  ((Zdt N t r).bind λr530=>(if(!r530)then(some true)else((idx r 0).bind λe533=>((Zc9 N t e533).bind λr534=>(if(r534 !=s.Talker)then(some true)else((idx r (w64 (((List.length r:Nat):Int)-1))).bind λe537=>((Zek N t e537).bind λr538=>(some (r538 !=s.Listener)))))))))=some (!ZgR t s r):=by
 have hL:t.Links.length<=1000:=by have:=g.l24;omega
 rw[Zkm g r hN,Z8];unfold ZgR;cases hv:ZbG t r with
 |false=>rfl
 |true=>
  obtain⟨h1,h8,hp⟩:=Zb1 hv;simp only[Zi,Zg,Zah];rw[Zsh h1,Z8,Zel hL (hp 0 (by omega)),Z8,ZuS h1 (by omega),Z8,ZeW hL (hp _ (by omega)),Z8,ZzN,ZzP h1];by_cases e:frm t (at0 r 0)=s.Talker
  ·have:(frm t (at0 r 0)!=s.Talker)=false:=by simp[e]
   rw[this];simp only[Zg,Zah,e,beq_self_eq_true,Zk];rfl
  have:(frm t (at0 r 0)!=s.Talker)=true:=by simp[e]
  rw[this];simp only[Zak,beq_eq_false_iff_ne.2 e,Bool.false_and,Bool.and_false,Bool.not_false]
theorem Zpl (g:Good t){s:Zal}(hl:s.Routes.length<=2)(hN:200<=N):ZaI (λx:Int=>ZeH N t s x) N 0=some (if s.Routes.all (ZgR t s)then .inl ()else .inr false):=by
 have:=Zbc (n:=s.Routes.length) (p:=λk=>ZgR t s (s.Routes.getD k [])) (body:=λx:Int=>ZeH N t s x) (bad:=.inr false) (fin:=.inl ()) (λk hk=>by
  unfold ZeH;rw[Zaj (by simp;omega),Zbq hk,Z8,Zbv hk,ZqA g s _ hN,Z8,ZaE (by omega)];cases ZgR t s s.Routes[k]<;>rfl) (by unfold ZeH;rw[Zai (by simp)]) (N:=N) (by omega)
 rw[this,ZmR s.Routes [] (ZgR t s)]
theorem Zt6 (g:Good t){s:Zal}(hl:s.Routes.length<=2)(hN:200<=N):ZaI (λx:Int=>Zlx N t s x) N 0=some (if s.Routes.all (ZgR t s)then .inl ()else .inr false):=Zpl g hl hN
theorem ZvA (g:Good t){s:Zal}(hl:lenB s=true)(hr:s.Routes.all (ZgR t s)=true)(hN:200<=N):
  (if(((List.length s.Routes:Nat):Int)==1)then(some true)else((idx s.Routes 0).bind λe545=>((idx s.Routes 1).bind λe546=>((Zd4 N t e545 e546).bind λr547=>(some r547)))))=some (Zud t s):=by
 simp only[lenB,Ze,Zag]at hl;unfold Zud;by_cases h2:s.Routes.length<2
 ·rw[Zaj (by simp;omega)];simp[h2]
 rw[Zai (by simp;omega),show(0:Int)=((0:Nat):Int)from rfl,show(1:Int)=((1:Nat):Int)from rfl,Zbq (by omega),Zbq (by omega)];simp only[Z8];have e0:=Ziz hr (k:=0) (by omega);have e1:=Ziz hr (k:=1) (by omega);rw[Zbv (by omega)]at e0 e1;rw[Zly g e0.1 e1.1 hN,Z8,Zbv (by omega),Zbv (by omega)];simp[h2]
theorem Zlw (g:Good t)(s:Zal)(hN:200<=N):Zhf N t s=some (Zbk t s):=by
 have head:((Zc0 N s.Id 1 4095).bind λr1=>(if(!r1)then(some true)else((Zds N t s.Talker).bind λr4=>(if(!r4)then(some true)else((Zds N t s.Listener).bind λr7=>(if(!r7)then(some true)else(if(s.Talker==s.Listener)then(some true)else((Zc0 N s.Size 84 1542).bind λr12=>(if(!r12)then(some true)else((Zc0 N s.Deadline 1 1099511627776).bind λr15=>(some (!r15))))))))))))=some (!Zun t s):=by
  simp only[Zje,Zon g,Z8];unfold Zun;cases inB s.Id 1 4095<;>cases Zqj t s.Talker<;>cases Zqj t s.Listener<;>cases h4:(s.Talker==s.Listener)<;>cases inB s.Size 84 1542<;>cases inB s.Deadline 1 1099511627776<;>simp[bne,h4]
 have rest:∀L:Option (Unit⊕Bool),(s.Routes.length<=2->L=some (if s.Routes.all (ZgR t s)then .inl ()else .inr false))->(if((decide (((List.length s.Routes:Nat):Int)<1))||(decide (((List.length s.Routes:Nat):Int)>2)))then(some false)else(L.bind λo541=>match o541 with
   |(.inl p542)=>(((if(((List.length s.Routes:Nat):Int)==1)then(some true)else((idx s.Routes 0).bind λe545=>((idx s.Routes 1).bind λe546=>((Zd4 N t e545 e546).bind λr547=>(some r547)))))).bind λ(j548:Bool)=>(some j548))
   |(.inr p549)=>(some p549)))=some (lenB s&&(s.Routes.all (ZgR t s)&&Zud t s)):=by
  intro L hL;cases hl:lenB s with
  |false=>
   rw[Zaj]
   ·rfl
   rw[Bool.eq_false_iff]at hl;simp only[lenB,ne_eq,Ze,Zag]at hl;simp only[Zj,Zag];omega
  |true=>
   have hl':=hl;simp only[lenB,Ze,Zag]at hl';rw[Zai (by simp only[Zj,Zag];omega),hL hl'.2];cases hr:s.Routes.all (ZgR t s)with
   |false=>rfl
   |true=>
    simp only[Zak,Z8];rw[ZvA g hl hr hN];rfl
 unfold Zhf;rw[head,Z8];unfold Zbk;cases hh:Zun t s with
 |false=>rfl
 |true=>
  simp only[Zi,Zg,Zah,Zk];unfold Zrj;simp only[Zje,Z8];by_cases c7:(s.Class==7)=true
  ·rw[Zaj c7,Zaj c7];have r1:=rest _ (λh=>Zpl g h hN);cases inB s.Period 1 240 with
   |false=>rfl
   |true=>cases (s.Bucket.Burst==0)with
    |false=>rfl
    |true=>cases (s.Bucket.Rate==0)with
     |false=>rfl
     |true=>exact r1
  rw[Zai c7,Zai c7];by_cases c6:(s.Class==6)=true
  ·rw[Zaj c6,Zaj c6];have r2:=rest _ (λh=>Zt6 g h hN);unfold bne;cases (s.Period==0)with
   |false=>rfl
   |true=>cases inB s.Bucket.Burst s.Size 1048576 with
    |false=>rfl
    |true=>cases inB s.Bucket.Rate 1 2097152 with
     |false=>rfl
     |true=>exact r2
  rw[Zai c6,Zai c6];rfl
structure SDOK (d:Zce):Prop where
 node:Byte d.Node
 way:Byte d.Way
 size:Byte d.Size
 period:Byte d.Period
 burst:Byte d.Burst
 rate:0<=d.Rate/\d.Rate<=65535
def Zxs (t:Zan):Prop:=∀x:Int,0<=x->x<t.Nodes->∃k,k<t.Links.length/\((lk t k).A=x∨(lk t k).B=x)
theorem Zkh (g:Good t)(hdeg:Zxs t){n k:Int}(hn:Byte n)(hk:Byte k)(hN:200<=N):∃r,ZiA N t n k=some r/\(r=[]∨ZbG t r=true):=by
 have hL:t.Links.length<=1000:=by have:=g.l24;omega
 unfold ZiA;obtain⟨o,o1,o2⟩:=ZbD (body:=λx:Int=>Zjf N t n k x) (I:=λx:Int=>∃j:Nat,x=j/\j<=16) (μ:=λx=>16-x.toNat) (Post:=λo:Unit⊕List Int=>o=.inl ()∨∃r,o=.inr r/\ZbG t r=true) (by
  rintro x ⟨j,rfl,hj⟩;simp only[Zjf];by_cases h16:j<16
  ·rw[Zaj (by simp;omega)];obtain⟨r,r1,r2⟩:=Zvu (N:=N) g hdeg hn (Zrv (k+IntKind.u8.wrap (j:Int))) hN;obtain⟨h1,h8,hp⟩:=Zb1 r2;have p0:=hp 0 (by omega);have pl:=hp (r.length-1) (by omega);rw[r1,Z8,Zaj (by simp;omega),Zkm g r hN,r2,Z8,Zaj rfl,Zsh h1,Z8,Zel hL p0,Z8,Zgr g.st (Zhv g p0).1,Z8,ZuS h1 (by omega),Z8,ZeW hL pl,Z8,
    Zgr g.st (Zhv g pl).2.1,Z8]
   have hne:neL r=some ():=by
    cases r with
    |nil=>simp at h1
    |cons a l=>rfl
   cases hc:(if stB t (frm t (at0 r 0))=true then some (stB t (too t (at0 r (r.length-1))))else some false)with
   |none=>split at hc<;>cases hc
   |some b=>
    rw[Z8];cases b with
    |true=>right;exact⟨_,by rw[Zaj rfl,hne];rfl,.inr ⟨r,rfl,r2⟩⟩
    |false=>left;exact⟨_,by rw[Zai (by decide),ZaE (by omega)],⟨j+1,rfl,by omega⟩,by simp;omega⟩
  right;exact⟨_,by rw[Zai (by simp;omega)],.inl rfl⟩) N 0 ⟨0,rfl,by omega⟩ (by simp;omega)
 rw[o1,Z8];rcases o2 with rfl|⟨r,rfl,hr⟩
 ·exact⟨[],rfl,.inl rfl⟩
 exact⟨r,rfl,.inr hr⟩
theorem Zji (g:Good t)(hdeg:Zxs t){d:Zce}(hd:SDOK d)(id:Int)(hN:200<=N):∃x b,ZdT N d t id=some (x,b)/\(b=true->Zbk t x=true/\x.Id=id):=by
 have hL:t.Links.length<=1000:=by have:=g.l24;omega
 have hn2:=g.n2;have hn12:=g.n12;unfold ZdT;rw[ZaB (x:=d.Node) (by have:=hd.node.1;omega) (by have:=hd.node.2;omega)];obtain⟨m,m1,m2,m3⟩:=ZeD (v:=d.Node) (b:=t.Nodes) hd.node.1 (by omega);rw[m1,Z8];obtain⟨o,o1,o2⟩:=ZbD (body:=λx:Int×Int=>Zd2 N t x.1 x.2) (I:=λx:Int×Int=>(0<=x.1/\x.1<t.Nodes)/\0<=x.2/\x.2<=t.Nodes) (μ:=λx=>(t.Nodes-x.2).toNat) (Post:=λo:Int=>0<=o/\o<t.Nodes) (by
  rintro⟨a,i⟩ ⟨⟨a0,a1⟩,i0,i1⟩;simp only at a0 a1 i0 i1;simp only[Zd2];by_cases hi:i<t.Nodes
  ·rw[Zaj (by simp;omega),Zgr g.st (Zhq.2 ⟨a0,a1⟩),Z8,Z8];cases stB t a with
   |true=>right;exact⟨a,by rfl,a0,a1⟩
   |false=>
    left;obtain⟨q,q1,q2,q3⟩:=ZeD (v:=a+1) (b:=t.Nodes) (by omega) (by omega);rw[Zaj (by simp),ZaB (by omega) (by omega),q1,Z8,ZaB (by omega) (by omega)];exact⟨_,rfl,⟨⟨q2,q3⟩,by simp only;omega,by simp only;omega⟩,by simp only;omega⟩
  right;rw[Zai (by simp;omega)];exact⟨a,rfl,a0,a1⟩) N (m,0) ⟨⟨m2,m3⟩,by simp,by simp only;omega⟩ (by simp only;omega)
 rw[o1,Z8];obtain⟨r,r1,r2⟩:=Zkh (N:=N) g hdeg (Zrv o) hd.way hN;rw[r1,Z8];rcases r2 with rfl|r2
 ·exact⟨_,_,rfl,λh=>by cases h⟩
 obtain⟨h1,h8,hp⟩:=Zb1 r2;have hne:¬List.isEmpty r=true:=by cases r with
  |nil=>simp at h1
  |cons a l=>simp
 rw[Zai hne,Zsh h1,Z8,Zel hL (hp 0 (by omega)),Z8,ZuS h1 (by omega),Z8,ZeW hL (hp _ (by omega)),Z8];have hj:∃j:Int×Int×Int×Int,(if d.Reserved=true then some ((6:Int),(0:Int),w64 (w64 (84+w64 d.Size)+w64 (4*w64 d.Burst)),w64 (1+w64 d.Rate))else(idx [4,6,8,12,16,24,48,10,5,240] (Int.tmod d.Period 10)).bind λe1021=>some (7,e1021,0,0))=some j:=by
  by_cases hr:d.Reserved=true
  ·rw[Zaj hr];exact⟨_,rfl⟩
  rw[Zai hr];have hm:Int.tmod d.Period 10=d.Period%10:=Zo hd.period.1;rw[hm,Zq9 (Int.emod_nonneg _ (by decide)) (by have:=Int.emod_lt_of_pos d.Period (show(0:Int)<10 by decide);simp only[ZN,ZP];omega)];exact⟨_,rfl⟩
 obtain⟨j,j1⟩:=hj;rw[j1,Z8];obtain⟨o',p1,p2⟩:=ZbD (body:=λx:Int×(List (List Int))=>Zd1 N d t o r (too t (at0 r (r.length-1))) x.1 x.2) (I:=λx:Int×List (List Int)=>∃k:Nat,x.1=k/\k<=24/\x.2.length<=k+1) (μ:=λx=>24-x.1.toNat) (Post:=λ_:List (List Int)=>True) (by
  rintro⟨a,l⟩ ⟨k,rfl,hk,hl⟩;simp only at hl;simp only[Zd1];cases hc:(if decide ((k:Int)<24)=true then if d.Two=true then some (((List.length l:Nat):Int)==1)else some false else some false)with
  |none=>split at hc;split at hc;all_goals cases hc
  |some b=>
   rw[Z8];cases b with
   |false=>right;exact⟨l,rfl,trivial⟩
   |true=>
    left;have hk24:k<24:=by
     by_cases h:k<24
     ·exact h
     rw[Zai (by simp;omega)]at hc;cases hc
    rw[Zaj rfl];obtain⟨q,q1,q2⟩:=Zkh (N:=N) g hdeg (Zrv o) (Zrv (d.Way+IntKind.u8.wrap (k:Int))) hN;rw[q1,Z8];have fin:∀(X:Option (List (List Int))) (l':List (List Int)),X=some l'->l'.length<=k+1+1->∃y,(X.bind λj2037=>some (Sum.inl (β:=List (List Int)) (w64 ((k:Int)+1),j2037)))=some (Sum.inl (β:=List (List Int)) y)/\(∃k_1:Nat,y.1=(k_1:Int)/\k_1<=24/\y.2.length<=k_1+1)/\24-y.1.toNat<24-(k:Int).toNat:=by
     intro X l' hX hl';subst hX;exact⟨_,by rw[Z8,ZaE (by omega)],⟨k+1,rfl,by omega,hl'⟩,by simp only[Zp];omega⟩
    rcases q2 with rfl|q2
    ·exact fin _ l rfl (by omega)
    obtain⟨w1,w8,wp⟩:=Zb1 q2;have wne:¬List.isEmpty q=true:=by cases q with
     |nil=>simp at w1
     |cons a l=>simp
    rw[Zai wne,ZuS w1 (by omega),Z8,ZeW hL (wp _ (by omega)),Z8,Zly g r2 q2 hN,Z8];cases hc2:(if(too t (at0 q (q.length-1))==too t (at0 r (r.length-1)))=true then some (Zqd t r q)else some false)with
    |none=>split at hc2<;>cases hc2
    |some b2=>
     rw[Z8];cases b2 with
     |false=>exact fin _ l rfl (by omega)
     |true=>exact fin _ (l++[q]) (by rw[Zaj rfl,Zh5 (by simp;omega) (by omega)];rfl) (by simp;omega)) N (0,[r]) ⟨0,rfl,by omega,by simp⟩ (by simp;omega)
 rw[p1,Z8,Zlw g _ hN,Z8];exact⟨_,_,rfl,λh=>⟨h,rfl⟩⟩
structure SL (t:Zan) (l:List Zal):Prop where
 len:l.length<=6
 ok:∀k,k<l.length->Zbk t (l.getD k dS)=true/\idAt l k=((k+1:Nat):Int)
theorem SL.snoc {l:List Zal}(h:SL t l)(h6:l.length<6){x:Zal}(hx:Zbk t x=true)(hi:x.Id=((l.length+1:Nat):Int)):SL t (l++[x]):=by
 refine⟨by simp;omega,λk hk=>?_⟩;unfold idAt;by_cases e:k<l.length
 ·have:=h.ok k e;unfold idAt at this;rw[Zbv hk,List.getElem_append_left e,←Zbv e dS];exact this
 have:k=l.length:=by simp at hk;omega
 subst this;rw[Zbv hk];simp only[List.getElem_append_right (Nat.le_refl _),Nat.sub_self,List.getElem_cons_zero];exact⟨hx,hi⟩
theorem Zmr (g:Good t)(hdeg:Zxs t){L:List Zce}(hL:∀d∈L,SDOK d)(hlen:L.length<=maxLen)(hN:200+L.length<=N):∃l,ZgL N t L=some l/\SL t l:=by
 unfold ZgL;obtain⟨o,o1,o2⟩:=ZbD (body:=λx:Int×(List Zal)=>Zgo N t L x.1 x.2) (I:=λx:Int×List Zal=>∃k:Nat,x.1=k/\k<=L.length/\SL t x.2) (μ:=λx=>L.length-x.1.toNat) (Post:=SL t) (by
  rintro⟨a,l⟩ ⟨k,rfl,hk,hl⟩;simp only at hl;simp only[Zgo];by_cases hkl:k<L.length
  ·rw[Zaj (by simp;omega),Z8];by_cases h6:l.length<6
   ·rw[Zaj (by simp;omega),Zbq hkl,Z8];obtain⟨x,b,x1,x2⟩:=Zji (N:=N) g hdeg (hL _ (List.getElem_mem hkl)) (w64 (((List.length l:Nat):Int)+1)) (by omega);rw[x1,Z8];have hw:w64 ((k:Int)+1)=((k+1:Nat):Int):=by
     rw[ZaB (by omega) (by have:L.length<=9223372036854775807:=hlen;omega)];omega
    left;cases b with
    |false=>exact⟨_,by rw[Zai (by simp),Z8,hw],⟨k+1,rfl,by omega,hl⟩,by simp only[Zp];omega⟩
    |true=>
     obtain⟨y1,y2⟩:=x2 rfl;have hs:=hl.snoc h6 y1 (by rw[y2,ZaE (by omega)]);exact⟨_,by rw[Zaj rfl,Zh5 (by simp;omega) (by omega),Z8,Z8,hw],⟨k+1,rfl,by omega,hs⟩,by simp only[Zp];omega⟩
   right;exact⟨l,by rw[Zai (by simp;omega)],hl⟩
  right;exact⟨l,by rw[Zai (by simp;omega)];rfl,hl⟩) N (0,[]) ⟨0,rfl,by omega,⟨by simp,λk hk=>by simp at hk⟩⟩ (by simp;omega)
 exact⟨o,by rw[o1];rfl,o2⟩
theorem Zms {a b c:Int}(ha:Byte a)(hb:Byte b)(hc:Byte c):∃u,Zjg N a b c=some u/\Zdi u=true:=by
 obtain⟨a0,a1⟩:=ha;obtain⟨b0,b1⟩:=hb;obtain⟨c0,c1⟩:=hc;refine⟨_,rfl,?_⟩;have hm:Int.tmod b 40=b%40:=Zo b0;have e1:=Int.emod_nonneg b (show(40:Int)≠0 by decide);have e2:=Int.emod_lt_of_pos b (show(0:Int)<40 by decide);rw[hm,ZaB (x:=a) (by omega) (by omega),ZaB (x:=20*a) (by omega) (by omega),ZaB (x:=100+20*a) (by omega) (by omega),ZaB (x:=b%40) (by omega) (by omega),ZaB (x:=c) (by omega) (by omega)];simp only[Zdi,inB,Ze,Zag];refine⟨⟨?_,?_⟩,⟨?_,?_⟩,⟨?_,?_⟩,?_,?_⟩<;>omega
end
end Go.Sh

namespace Go.Sh
open Go Go.Eng
section
variable {N:Nat} {t:Zan} {u:Zar} {s:Zal}
theorem ZoC {α:Type}{n k:Nat}(f:Nat->α)(h:k<n):idx ((List.range n).map f) (k:Int)=some (f k):=by
 rw[Zbq (by simpa using h)];simp
theorem ZuW (g:Good t)(hu:Zfr u)(hs:ZkI s){r:List Int}(hp:∀k,k<r.length->Zcn t (at0 r k)=true){k:Nat}(hk:k+1<r.length):
  (ZaR t u s r (k+1)).Early=Zbn t u (ZaR t u s r k)-2*u.Slack/\(ZaR t u s r (k+1)).Late=Zbn t u (ZaR t u s r k)+2*u.Slack∧
  (ZaR t u s r (k+1)).Late<=(ZaR t u s r (k+1)).Open/\(ZaR t u s r (k+1)).Open<(ZaR t u s r (k+1)).Late+u.Grid/\(ZaR t u s r (k+1)).Open%u.Grid=0/\(ZaR t u s r k).Open<(ZaR t u s r (k+1)).Open:=by
 have hb:=ZgT g hu hs hp k (by omega);obtain⟨o1,o2,o3⟩:=hb.told g hu;have h0:=hb.op1;have c:=Zsm hu (x:=Zbn t u (ZaR t u s r k)+2*u.Slack) (by have:=hu.s1;omega);have:=hu.s1;refine⟨rfl,rfl,c.1,c.2.1,c.2.2,?_⟩;show _<ZnC u (Zbn t u (ZaR t u s r k)+2*u.Slack);omega
theorem ZgZ (g:Good t)(hu:Zfr u)(hs:ZkI s){r:List Int}(hp:∀k,k<r.length->Zcn t (at0 r k)=true)(h8:r.length<=8){k:Nat}(hk:k<r.length):
  0<=(ZaR t u s r k).Open/\(ZaR t u s r k).Open<=20000000/\0<=Zbn t u (ZaR t u s r k)/\Zbn t u (ZaR t u s r k)<=20000000:=by
 have hb:=ZgT g hu hs hp k hk;obtain⟨o1,o2,o3⟩:=hb.told g hu;have h0:=hb.op1;have h1:=hb.op2;omega
theorem SDOK.of {d:Zce}(h:Zis d):SDOK d:=by
 obtain⟨_,_,h1,h2,h3,h4,h5,h6⟩:=h;refine⟨Zew h1,Zew h2,Zew h3,Zew h4,Zew h5,?_⟩;simpa[InK,Lit.wf,IntKind.min,IntKind.max,IntKind.signed,IntKind.bits]using h6
end
end Go.Sh
namespace Go.Sh
open Go Go.Eng
section
variable {N:Nat} {t:Zan} {u:Zar} {s:Zal}
theorem ZwP (l:List Zal)(k:Nat):allB k (λj=>!(idAt l j==idAt l k))=Zr5 l k:=by
 unfold Zr5 allB;rw[List.not_any_eq_all_not]
theorem Znk (l:List Zal)(hN:200<=N):ZfP N t l=some (allR t l):=by
 unfold ZfP allR;rw[ZlA (by omega),Z8];cases hT:ZdW t with
 |false=>rfl
 |true=>
  have g:=Za9.1 hT;simp only[Zi,Zak,Zg,Zah];by_cases h12:l.length<=12
  ·rw[Zai (by simp;omega),Zaj h12];have:=Zbc (n:=l.length) (p:=λk=>Zbk t (l.getD k dS)) (body:=λx:Int=>Zej N t l x) (bad:=.inr 321) (fin:=.inl ()) (λk hk=>by
    unfold Zej;rw[Zaj (by simp;omega),Zbq hk,Z8,Zbv hk,Zlw g _ hN,Z8,ZaE (by omega)];cases Zbk t l[k]<;>rfl) (by unfold Zej;rw[Zai (by simp)]) (N:=N) (by omega)
   rw[this,ZmR l dS (Zbk t)];cases l.all (Zbk t)with
   |false=>rfl
   |true=>
    simp only[Zak,Z8];have:=Zbc (n:=l.length) (p:=Zr5 l) (body:=λx:Int=>ZcG N l x) (bad:=.inr 322) (fin:=.inl ()) (λk hk=>by
     show ZcG N l (k:Int)=_;unfold ZcG;rw[Zaj (by simp;omega)];have hin:=Zbc (n:=k) (p:=λj=>!(idAt l j==idAt l k)) (body:=λx:Int=>ZcF N l (k:Int) x) (bad:=.inr 322) (fin:=.inl ()) (λj hj=>by
      show ZcF N l (k:Int) (j:Int)=_;unfold ZcF;rw[Zaj (by simp;omega),Zbq (show j<l.length by omega),Z8,Zbq hk,Z8,ZaE (by omega)];have e1:idAt l j=l[j].Id:=by unfold idAt;rw[Zbv (by omega)]
      have e2:idAt l k=l[k].Id:=by unfold idAt;rw[Zbv hk]
      rw[e1,e2];cases l[j].Id==l[k].Id<;>rfl) (by show ZcF N l (k:Int) (k:Int)=_;unfold ZcF;rw[Zai (by simp)]) (N:=N) (by omega)
     rw[hin,ZwP,ZaE (by omega)];cases Zr5 l k<;>rfl) (by show ZcG N l (l.length:Int)=_;unfold ZcG;rw[Zai (by simp)]) (N:=N) (by omega)
    rw[this];cases allB l.length (Zr5 l)<;>rfl
  rw[Zaj (by simp;omega),Zai h12]
end
end Go.Sh
namespace Go.Sh
open Go Go.Eng
section
variable {N:Nat} {t:Zan} {u:Zar} {s:Zal}
theorem ZyO {G X:Int}(hG:1<=G)(hG2:G<=10000)(hX:0<=X)(hX2:X<=25000000)(hN:30000000<=N){body:Int->Option (Int⊕Int)}(hb:∀x,body x=if decide (x<X)=true then some (.inl (w64 (x+G)))else some (.inr x)):
  ZaI body N 0=some ((X+G-1)/G*G):=by
 obtain⟨o,o1,o2⟩:=ZbD (body:=body) (I:=λx:Int=>0<=x/\x<X+G/\x%G=0) (μ:=λx=>(X+G-x).toNat) (Post:=λr:Int=>X<=r/\r<X+G/\r%G=0) (by
  rintro x ⟨x0,x1,x2⟩;rw[hb];by_cases h:x<X
  ·left;refine⟨_,by rw[Zaj (by simpa using h),ZaB (by omega) (by omega)],⟨by omega,by omega,?_⟩,by omega⟩;rw[Int.add_emod_right];exact x2
  right;exact⟨x,by rw[Zai (by simpa using h)],by omega,x1,x2⟩) N 0 ⟨by omega,by omega,by simp⟩ (by omega)
 rw[o1];obtain⟨p1,p2,p3⟩:=o2
 congr 1
 have e1:=Int.mul_ediv_add_emod (X+G-1) G;have e2:=Int.emod_nonneg (X+G-1) (show G≠0 by omega);have e3:=Int.emod_lt_of_pos (X+G-1) (show 0<G by omega);have e4:=Int.mul_ediv_add_emod o G;rw[Zm]at e1 e4;have hq:o/G=(X+G-1)/G:=by
  generalize (X+G-1)/G=q at*;generalize o/G=p at*;rcases Int.lt_trichotomy p q with h|h|h
  ·have:(p+1)*G<=q*G:=Int.mul_le_mul_of_nonneg_right (by omega) (by omega);rw[Zl]at this;omega
  ·exact h
  have:(q+1)*G<=p*G:=Int.mul_le_mul_of_nonneg_right (by omega) (by omega);rw[Zl]at this;omega
 rw[←hq];omega
theorem Zkk (g:Good t)(hu:Zfr u)(hs:ZkI s){r:List Int}(hv:ZbG t r=true)(hN:30000000<=N):ZiB N t u s r=some ((List.range r.length).map (ZaR t u s r)):=by
 obtain⟨h1,h8,hp⟩:=Zb1 hv;have hL:t.Links.length<=1000:=by have:=g.l24;omega
 unfold ZiB;rw[Zsh h1,Z8,Z8,ZnO hL (hp 0 (by omega)),Z8];have l0:=ZpM g hs (hp 0 (by omega));rw[ZaB (x:=s.Size*(plk t (at0 r 0)).Per) (by omega) (by omega)];have hstep:∀k:Nat,1<=k->k<r.length->Ze1 N t u s r (k:Int) ((List.range k).map (ZaR t u s r))=some (.inl (((k+1:Nat):Int),(List.range (k+1)).map (ZaR t u s r))):=by
  intro k k1 hk;obtain⟨j,rfl⟩:∃j,k=j+1:=⟨k-1,by omega⟩;unfold Ze1;have hb:=ZgT g hu hs hp j (by omega);obtain⟨n1,n2,n3,n4,n5,n6⟩:=ZuW g hu hs hp hk;obtain⟨b1,b2,b3,b4⟩:=ZgZ g hu hs hp h8 (show j<r.length by omega);obtain⟨_,_,d1,d2⟩:=ZgX g hb.port;have lo1:=hb.long1;have lo2:=hb.long2;have s1:=hu.s1;have s2:=hu.s2;have g1:=hu.g1;have g2:=hu.g2;have p1:=hu.p1;have p2:=hu.p2;have x3:idx ((List.range (j+1)).map (ZaR t u s r)) (w64 (((j+1:Nat):Int)-1))=some (ZaR t u s r j):=by
   rw[ZaB (by omega) (by omega),show((j+1:Nat):Int)-1=(j:Int)by omega,ZoC _ (by omega)]
  rw[Zaj (by simp;omega),x3,Z8,ZlE hL hb.port,Z8,Zbq hk,Z8,Z8,←Zl9 hk,ZnO hL (hp _ hk),Z8];have lk:=ZpM g hs (hp _ hk);have htold:(ZaR t u s r j).Open+(ZaR t u s r j).Long+(plk t (ZaR t u s r j).Port).Delay+u.Proc=Zbn t u (ZaR t u s r j):=rfl;have w1:w64 ((ZaR t u s r j).Open+(ZaR t u s r j).Long)=(ZaR t u s r j).Open+(ZaR t u s r j).Long:=ZaB (by omega) (by omega);have w2:w64 ((ZaR t u s r j).Open+(ZaR t u s r j).Long+(plk t (ZaR t u s r j).Port).Delay)=(ZaR t u s r j).Open+(ZaR t u s r j).Long+(plk t (ZaR t u s r j).Port).Delay:=ZaB (by omega) (by omega);have w3:w64 (Zbn t u (ZaR t u s r j))=Zbn t u (ZaR t u s r j):=ZaB (by omega) (by omega);have w4:w64 (2*u.Slack)=2*u.Slack:=ZaB (by omega) (by omega);have w5:w64 (Zbn t u (ZaR t u s r j)+2*u.Slack)=Zbn t u (ZaR t u s r j)+2*u.Slack:=ZaB (by omega) (by omega);have w6:w64 (Zbn t u (ZaR t u s r j)-2*u.Slack)=Zbn t u (ZaR t u s r j)-2*u.Slack:=ZaB (by omega) (by omega);have hup:=ZyO (N:=N) (G:=u.Grid) (X:=Zbn t u (ZaR t u s r j)+2*u.Slack) g1 g2 (by omega) (by omega) hN (body:=λx:Int=>Zkl N u (ZaR t u s r j) (plk t (ZaR t u s r j).Port).Delay x) (λx=>by
   simp only[Zkl];rw[w1,w2,htold,w3,w4,w5])
  rw[hup,Z8,w1,w2,htold,w3,w4,w5,w6,ZaB (x:=s.Size*(plk t (at0 r (j+1))).Per) (by omega) (by omega),Zh5 (by simp;omega) (by omega),Z8,ZaE (by omega)];have e:[ZaQ.mk (at0 r (j+1)) (Zbn t u (ZaR t u s r j)-2*u.Slack) (Zbn t u (ZaR t u s r j)+2*u.Slack) ((Zbn t u (ZaR t u s r j)+2*u.Slack+u.Grid-1)/u.Grid*u.Grid) (s.Size*(plk t (at0 r (j+1))).Per)]=[j+1].map (ZaR t u s r):=rfl;rw[e,←ZT,←List.range_succ]
 have key:∀(m N' k:Nat),r.length-k=m->1<=k->k<=r.length->m<N'->ZaI (λx:Int×(List ZaQ)=>Ze1 N t u s r x.1 x.2) N' ((k:Int),(List.range k).map (ZaR t u s r))=some ((List.range r.length).map (ZaR t u s r)):=by
  intro m;induction m with
  |zero=>
   intro N' k e0 e1 e2 e3;obtain rfl:k=r.length:=by omega
   cases N' with
   |zero=>omega
   |succ N'=>
    rw[Za1 (r:=(List.range r.length).map (ZaR t u s r))];show Ze1 N t u s r ((r.length:Nat):Int) _=_;unfold Ze1;rw[Zai (by simp)]
  |succ m ih=>
   intro N' k e0 e1 e2 e3;cases N' with
   |zero=>omega
   |succ N'=>
    rw[Zbw (y:=(((k+1:Nat):Int),(List.range (k+1)).map (ZaR t u s r))) (hstep k e1 (by omega))];exact ih N' (k+1) (by omega) (by omega) (by omega) (by omega)
 have:=key (r.length-1) N 1 rfl (Nat.le_refl _) h1 (by omega);have e:(1,[ZaQ.mk (at0 r 0) 0 0 0 (s.Size*(plk t (at0 r 0)).Per)])=(((1:Nat):Int),(List.range 1).map (ZaR t u s r)):=rfl;rw[e,this];rfl
end
end Go.Sh
namespace Go.Sh
open Go Go.Eng
theorem ZoD {a G q:Int}(hG:0<G)(h1:q*G<=a)(h2:a<q*G+G):a/G=q:=by
 have e1:=Int.mul_ediv_add_emod a G;have e2:=Int.emod_nonneg a (show G≠0 by omega);have e3:=Int.emod_lt_of_pos a hG;rw[Zm]at e1;generalize a/G=p at*;rcases Int.lt_trichotomy p q with h|h|h
 ·have:(p+1)*G<=q*G:=Int.mul_le_mul_of_nonneg_right (by omega) (by omega);rw[Zl]at this;omega
 ·exact h
 have:(q+1)*G<=p*G:=Int.mul_le_mul_of_nonneg_right (by omega) (by omega);rw[Zl]at this;omega
theorem ZnA {a G:Int}(hG:0<G):a/G*G<=a/\a<a/G*G+G:=by
 have e1:=Int.mul_ediv_add_emod a G;have e2:=Int.emod_nonneg a (show G≠0 by omega);have e3:=Int.emod_lt_of_pos a hG;rw[Zm]at e1;omega
theorem Zeb {a G B:Int}(hG:1<=G)(h1: -B<=a)(h2:a<=B)(hB:0<=B): -B<=a/G/\a/G<=B:=by
 constructor
 ·rw[Int.le_ediv_iff_mul_le (by omega)];have:B*1<=B*G:=Int.mul_le_mul_of_nonneg_left hG hB;rw[Int.neg_mul];omega
 have:a/G<B+1:=by
  rw[Int.ediv_lt_iff_lt_mul (by omega)];have:(B+1)*1<=(B+1)*G:=Int.mul_le_mul_of_nonneg_left hG (by omega);omega
 omega
theorem Zjs (N:Nat){a b:Int}(hb:1<=b)(h1: -100000000<=a)(h2:a<=100000000):Zem N a b=some (a/b):=by
 unfold Zem;have e:=Int.mul_tdiv_add_tmod a b;have l1:=Int.lt_tmod_of_pos a (show 0<b by omega);have l2:=Int.tmod_lt_of_pos a (show 0<b by omega);rw[Zm]at e;have hq: -100000000<=a.tdiv b/\a.tdiv b<=100000000:=by
  generalize a.tdiv b=q at*;rcases Int.lt_or_le q 0 with c|c
  ·have:q*b<=q*1:=Int.mul_le_mul_of_nonpos_left (by omega) (by omega);by_cases d:q≤ -1
   ·have h3:(q+1)*b<=(q+1)*1:=Int.mul_le_mul_of_nonpos_left (by omega) (by omega);rw[Zl]at h3;omega
   omega
  have:q*1<=q*b:=Int.mul_le_mul_of_nonneg_left (by omega) c;by_cases d:1<=q
  ·have h3:(q-1)*1<=(q-1)*b:=Int.mul_le_mul_of_nonneg_left (by omega) (by omega);simp only[Int.sub_mul,Int.one_mul,Int.mul_one]at h3;omega
  omega
 rw[Zjo (by omega),ZcK (by omega)];have ew:IntKind.i64.wrap (a.tdiv b)=a.tdiv b:=ZaB (by omega) (by omega);rw[ew];simp only[Z8];by_cases c:a.tmod b<0
 ·rw[Zaj (by simpa using c),Z8,ZaB (by omega) (by omega)]
  congr 1
  symm;refine ZoD (by omega) ?_ ?_
  ·rw[Int.sub_mul];omega
  rw[Int.sub_mul];omega
 rw[Zai (by simpa using c),Z8]
 congr 1
 symm;refine ZoD (by omega) ?_ ?_<;>omega
theorem Zls (N:Nat){a b:Int}(hb:1<=b)(hb2:b<=1000000)(h1: -100000000<=a)(h2:a<=100000000):Zhd N a b=some (a/b):=by
 unfold Zhd;have m0:=Int.emod_nonneg a (show b≠0 by omega);have m1:=Int.emod_lt_of_pos a (show 0<b by omega);have hs:=Zeb (a:=a) (B:=100000000) hb h1 h2 (by omega);have e:a-a%b=b*(a/b):=by have:=Int.mul_ediv_add_emod a b;omega
 have ed:(b*(a/b)).tdiv b=a/b:=Int.mul_tdiv_cancel_left _ (by omega);have ew:IntKind.i64.wrap (a/b)=a/b:=ZaB (by omega) (by omega);rw[Zkg N (by omega) hb2,Z8,ZaB (by omega) (by omega),e,Zjo (by omega),ed,ew,Z8]
theorem Zyh {x G:Int}(hG:1<=G): -((-x)/G)=(x+G-1)/G:=by
 symm;obtain⟨a,b⟩:=ZnA (a:= -x) (G:=G) (by omega);refine ZoD (by omega) ?_ ?_
 ·rw[Int.neg_mul];omega
 rw[Int.neg_mul];omega
section
variable {N:Nat} {t:Zan} {u:Zar} {s:Zal}
def useH (u:Zar)(n P:Int)(h:ZaQ):ZaD:=⟨n,h.Port,(h.Early/u.Grid)%P,(h.Open+h.Long+u.Grid-1)/u.Grid-h.Early/u.Grid⟩
def Ziq (t:Zan)(u:Zar)(s:Zal)(r:List Int):List ZaQ:=(List.range r.length).map (ZaR t u s r)
def Zc2 (t:Zan)(u:Zar)(n:Int)(s:Zal)(r:List Int):List ZaD:=(Ziq t u s r).map (useH u n s.Period)
def Znu (t:Zan)(u:Zar)(s:Zal)(r:List Int):Bool:=decide (Zbn t u (ZaR t u s r (r.length-1))+2*u.Slack>s.Deadline)
structure HN (u:Zar) (h:ZaQ):Prop where
 e1: -2000<=h.Early
 e2:h.Early<=20000000
 o1:0<=h.Open
 o2:h.Open<=20000000
 l1:84<=h.Long
 l2:h.Long<=1542000
 eo:h.Early<=h.Open
theorem Zsc (g:Good t)(hu:Zfr u)(hs:ZkI s){r:List Int}(hv:ZbG t r=true){h:ZaQ}(hh:h∈Ziq t u s r):HN u h/\Zcn t h.Port=true:=by
 obtain⟨h1,h8,hp⟩:=Zb1 hv;obtain⟨k,hk,rfl⟩:=List.mem_map.1 hh;rw[ZW]at hk;have hb:=ZgT g hu hs hp k hk;obtain⟨b1,b2,b3,b4⟩:=ZgZ g hu hs hp h8 hk;have s1:=hu.s1;have s2:=hu.s2;refine⟨?_,hb.port⟩;cases k with
 |zero=>exact⟨by show -2000<=(0:Int);omega,by show(0:Int)<=20000000;omega,b1,b2,hb.long1,hb.long2,by show(0:Int)<=0;omega⟩
 |succ k=>
  obtain⟨n1,n2,n3,n4,n5,n6⟩:=ZuW g hu hs hp hk;obtain⟨c1,c2,c3,c4⟩:=ZgZ g hu hs hp h8 (show k<r.length by omega);exact⟨by omega,by omega,b1,b2,hb.long1,hb.long2,by omega⟩
theorem Zz1 (hu:Zfr u){h:ZaQ}(hn:HN u h){n P:Int}(hP:1<=P)(hP2:P<=1000):∃r2,Zem N h.Early u.Grid=some (h.Early/u.Grid)/\Zem N (w64 ((w64 ((w64 (h.Open+h.Long))+u.Grid))-1)) u.Grid=some ((h.Open+h.Long+u.Grid-1)/u.Grid)∧
  Zem N (h.Early/u.Grid) P=some r2/\ZaD.mk n h.Port (w64 (h.Early/u.Grid-(w64 (r2*P)))) (w64 ((h.Open+h.Long+u.Grid-1)/u.Grid-h.Early/u.Grid))=useH u n P h:=by
 obtain⟨e1,e2,o1,o2,l1,l2,_⟩:=hn;have g1:=hu.g1;have g2:=hu.g2;have d1:=Zeb (a:=h.Early) (B:=20000000) g1 (by omega) e2 (by omega);have d2:=Zeb (a:=h.Open+h.Long+u.Grid-1) (B:=22000000) g1 (by omega) (by omega) (by omega);have m0:=Int.emod_nonneg (h.Early/u.Grid) (show P≠0 by omega);have m1:=Int.emod_lt_of_pos (h.Early/u.Grid) (show 0<P by omega);have em:h.Early/u.Grid/P*P=h.Early/u.Grid-h.Early/u.Grid%P:=by have:=Int.mul_ediv_add_emod (h.Early/u.Grid) P;rw[Zm]at this;omega
 refine⟨h.Early/u.Grid/P,Zjs N g1 (by omega) (by omega),?_,Zjs N hP (by omega) (by omega),?_⟩
 ·rw[ZaB (x:=h.Open+h.Long) (by omega) (by omega),ZaB (x:=h.Open+h.Long+u.Grid) (by omega) (by omega),ZaB (x:=h.Open+h.Long+u.Grid-1) (by omega) (by omega)];exact Zjs N g1 (by omega) (by omega)
 unfold useH;rw[em,ZaB (x:=h.Early/u.Grid-h.Early/u.Grid%P) (by omega) (by omega),ZaB (x:=h.Early/u.Grid-(h.Early/u.Grid-h.Early/u.Grid%P)) (by omega) (by omega),ZaB (x:=(h.Open+h.Long+u.Grid-1)/u.Grid-h.Early/u.Grid) (by omega) (by omega)]
 congr 1
 omega
theorem Zs0 (hu:Zfr u){h:ZaQ}(hn:HN u h){n P:Int}(hP:1<=P)(hP2:P<=1000):Zmm N u n P h=some (useH u n P h):=by
 obtain⟨e1,e2,o1,o2,l1,l2,_⟩:=hn;have g1:=hu.g1;have g2:=hu.g2;have d1:=Zeb (a:=h.Early) (B:=20000000) g1 (by omega) e2 (by omega);have d2:=Zeb (a:=h.Open+h.Long+u.Grid-1) (B:=22000000) g1 (by omega) (by omega) (by omega);have c:=Zyh (x:=h.Open+h.Long) g1;unfold Zmm useH;rw[Zls N g1 (by omega) (by omega) (by omega),Z8,ZaB (x:=h.Open+h.Long) (by omega) (by omega),show(0:Int)-(h.Open+h.Long)= -(h.Open+h.Long)by omega,ZaB (x:= -(h.Open+h.Long)) (by omega) (by omega),Zls N g1 (by omega) (by omega) (by omega),Z8,Zkg N (by omega) (by omega),Z8];rw[show(0:Int)- -(h.Open+h.Long)/u.Grid=(h.Open+h.Long+u.Grid-1)/u.Grid by omega,ZaB (x:=(h.Open+h.Long+u.Grid-1)/u.Grid) (by omega) (by omega),ZaB (by omega) (by omega)]
structure Ac where
 late:Bool
 P:List Int
 U:List ZaD
def Zf5 (t:Zan)(u:Zar)(a:Ac)(s:Zal):Ac:=
 if s.Class=7 then⟨a.late||s.Routes.any (Znu t u s),a.P++[s.Period],a.U++s.Routes.flatMap (Zc2 t u (a.P.length:Int) s)⟩else a
def accA (t:Zan)(u:Zar)(l:List Zal):Ac:=l.foldl (Zf5 t u) ⟨false,[],[]⟩
structure SS (t:Zan) (s:Zal):Prop where
 str:Zbk t s=true
 cls:s.Class=7
 per1:1<=s.Period
 per2:s.Period<=240
 dl:s.Deadline<=1099511627776
 r1:1<=s.Routes.length
 r2:s.Routes.length<=2
 rt:∀r∈s.Routes,ZbG t r=true
theorem SS.of (h:Zbk t s=true)(hc:s.Class=7):SS t s:=by
 obtain⟨⟨r1,r2⟩,hr⟩:=Zlh h;have h':=h;simp only[Zbk,Zun,inB,Zrj,Ze,Zag]at h';obtain⟨h1,h2,_⟩:=h';rw[Zaj (by simp[hc])]at h2;simp only[inB,Ze,Zag]at h2;refine⟨h,hc,h2.1.1,h2.1.2,h1.2.2.2.2.2.2,r1,r2,λr hm=>?_⟩;obtain⟨k,hk,rfl⟩:=List.getElem_of_mem hm;have:=(Ziz hr hk).1
 rwa [Zbv hk]at this
theorem ZoM (g:Good t){r:List Int}(hv:ZbG t r=true)(n:Int):(Zc2 t u n s r).length<=8:=by
 have:=(Zb1 hv).2.1;simp[Zc2,Ziq];omega
theorem ZcW {α:Type}{l:List α}{k:Nat}(hk:k<l.length):l.take (k+1)=l.take k++[l[k]]:=by
 rw[Z5 hk]
theorem ZmK {α β:Type}(f:α->List β){B:Nat}:∀(l:List α),(∀x∈l,(f x).length<=B)->(l.flatMap f).length<=B*l.length
 |[],_=>by simp
 |x::l,h=>by
  have h1:=ZmK f l λy hy=>h y (by simp[hy])
  have h2:=h x (by simp);simp only[List.flatMap_cons,ZM,ZN];rw[Nat.mul_add];omega
theorem Znc (k:Nat)(hk:k<s.Routes.length):Ze0 s (k:Int)=s.Routes[k]:=by
 unfold Ze0;rw[Zp,Zbv hk]
theorem Znm (hT:ZdW t=true)(hU:Zdi u=true)(h:SS t s){b:Bool}{P:List Int}{U:List ZaD}(hP:P.length<=100)(hUl:U.length<=900)(hN:2000<=N):
  ZfX N ⟨⟨P,U⟩,b⟩ t u s=some (0,⟨⟨(Zf5 t u ⟨b,P,U⟩ s).P,(Zf5 t u ⟨b,P,U⟩ s).U⟩,(Zf5 t u ⟨b,P,U⟩ s).late⟩):=by
 have g:=Za9.1 hT;have hu:=ZbC hU;have hs:=Zdg h.str;have p1:=h.per1;have p2:=h.per2;have r1:=h.r1;have r2:=h.r2;unfold ZfX Zf5;rw[Zaj h.cls];simp only;rw[ZiK (by omega) (by omega),Z8];obtain⟨o,ho,eo⟩:=ZbD (body:=λx:Int×Bool×(List ZaD)=>Zfx N ⟨⟨P,U⟩,b⟩ t u s (P++[s.Period]) x.1 x.2.1 x.2.2)
  (λx=>∃k:Nat,x.1=k/\k<=s.Routes.length/\x.2.1=(b||(s.Routes.take k).any (Znu t u s))/\x.2.2=U++(s.Routes.take k).flatMap (Zc2 t u (P.length:Int) s)) (λx=>(s.Routes.length-x.1).toNat)
  (λr=>r=.inl (b||s.Routes.any (Znu t u s),U++s.Routes.flatMap (Zc2 t u (P.length:Int) s))) (λx hx=>by
   obtain⟨i,b',U'⟩:=x;obtain⟨k,k1,k2,k3,k4⟩:=hx;simp only at k1 k3 k4;subst k1 k3 k4;simp only[Zfx];by_cases c:k<s.Routes.length
   ·left;have hv:=h.rt _ (List.getElem_mem c);obtain⟨v1,v8,vp⟩:=Zb1 hv;refine⟨(((k+1:Nat):Int),b||(s.Routes.take (k+1)).any (Znu t u s),U++(s.Routes.take (k+1)).flatMap (Zc2 t u (P.length:Int) s)),?_,⟨k+1,rfl,by omega,rfl,rfl⟩,by simp;omega⟩;rw[Zaj (by simpa using c),ZjN hT hU h.str h.cls (by omega) (by omega) (by omega),Z8,Znc k c,Zn8 hT hU h.str h.cls (by omega) (by omega) (by omega),Znc k c];simp only[Zae,Zg,Zah,Z8];have hfl:((s.Routes.take k).flatMap (Zc2 t u (P.length:Int) s)).length<=8*(s.Routes.take k).length:=ZmK _ _ λr hr=>ZoM g (h.rt r (List.mem_of_mem_take hr)) _
    have htl:(s.Routes.take k).length<=2:=by simp;omega
    obtain⟨q,hq,eq⟩:=ZbD (body:=λx:Int×(List ZaD)=>Zfw N ⟨⟨P,U⟩,b⟩ u s ((List.range s.Routes[k].length).map (ZaR t u s s.Routes[k]),0) x.1 x.2)
     (λx=>∃j:Nat,x.1=j/\j<=s.Routes[k].length/\x.2=U++(s.Routes.take k).flatMap (Zc2 t u (P.length:Int) s)++(Zc2 t u (P.length:Int) s s.Routes[k]).take j) (λx=>(s.Routes[k].length-x.1).toNat)
     (λr=>r=U++(s.Routes.take k).flatMap (Zc2 t u (P.length:Int) s)++Zc2 t u (P.length:Int) s s.Routes[k]) (λx hx=>by
      obtain⟨i,U'⟩:=x;obtain⟨j,j1,j2,j3⟩:=hx;simp only at j1 j3;subst j1 j3;simp only[Zfw];have hlen:(Zc2 t u (P.length:Int) s s.Routes[k]).length=s.Routes[k].length:=by simp[Zc2,Ziq]
      by_cases d:j<s.Routes[k].length
      ·left;refine⟨(((j+1:Nat):Int),U++(s.Routes.take k).flatMap (Zc2 t u (P.length:Int) s)++(Zc2 t u (P.length:Int) s s.Routes[k]).take (j+1)),?_,⟨j+1,rfl,by omega,rfl⟩,by simp;omega⟩;have hmem:ZaR t u s s.Routes[k] j∈Ziq t u s s.Routes[k]:=List.mem_map.2 ⟨j,List.mem_range.2 d,rfl⟩;obtain⟨x2,f1,f2,f3,f4⟩:=Zz1 (N:=N) hu (Zsc g hu hs hv hmem).1 (n:=(P.length:Int)) p1 (by omega);have eh:(Zc2 t u (P.length:Int) s s.Routes[k])[j]'(by omega)=useH u (P.length:Int) s.Period (ZaR t u s s.Routes[k] j):=by simp[Zc2,Ziq]
       rw[Zaj (by simpa using d),ZoC _ d,Z8,f1,Z8,f2,Z8,f3,Z8,f4,ZiK (by simp only[ZM,ZS];omega) (by omega),Z8,ZaE (by omega),ZcW (by omega),eh];simp only[Zs]
      right;obtain rfl:j=s.Routes[k].length:=by omega
      refine⟨U++(s.Routes.take k).flatMap (Zc2 t u (P.length:Int) s)++Zc2 t u (P.length:Int) s s.Routes[k],?_,rfl⟩;rw[Zai (by simp),Z4 (Nat.le_of_eq hlen)]) N (0,U++(s.Routes.take k).flatMap (Zc2 t u (P.length:Int) s)) ⟨0,rfl,by omega,by simp⟩ (by simp;omega)
    rw[hq,Z8,eq];have hj:s.Routes[k].length-1<s.Routes[k].length:=by omega
    obtain⟨b1,b2,b3,b4⟩:=ZgZ g hu hs vp v8 hj;have s1:=hu.s1;have s2:=hu.s2;rw[ZaB (x:=2*u.Slack) (by omega) (by omega),ZaB (x:=Zbn t u (ZaR t u s s.Routes[k] (s.Routes[k].length-1))+2*u.Slack) (by omega) (by omega),ZaE (by omega),ZcW c,List.any_append,List.flatMap_append];have el:decide (Zbn t u (ZaR t u s s.Routes[k] (s.Routes[k].length-1))+2*u.Slack>s.Deadline)=Znu t u s s.Routes[k]:=rfl;rw[el];simp only[List.any_cons,List.any_nil,Bool.or_false,List.flatMap_cons,List.flatMap_nil,List.append_nil,Zs];cases b<;>cases (s.Routes.take k).any (Znu t u s)<;>simp
   right;obtain rfl:k=s.Routes.length:=by omega
   exact⟨_,by rw[Zai (by simp)],by simp⟩) N (0,b,U) ⟨0,rfl,by omega,by simp,by simp⟩ (by simp;omega)
 rw[ho,Z8,eo]
end
end Go.Sh

