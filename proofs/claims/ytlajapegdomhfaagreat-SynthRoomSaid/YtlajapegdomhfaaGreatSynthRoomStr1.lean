/-Part of the proof. -/
import Derived.Test.YtlajapegdomhfaaGreatSynthRoomBase
import Derived.Test.YtlajapegdomhfaaGreatSynthRoomRd
import Derived.KernelRfl
set_option linter.all false
namespace Go.Sh
open Go Go.Eng
section
variable {N:Nat} {t:Zav}
theorem Zj9 (g:Good t)(r:List Int)(hN:200<=N):Zdw N t r=some (ZbN t r):=by
 by_cases h:r.length<=100
 ·exact Zqv g h hN
 unfold Zdw ZbN;rw[Zar (by simp;omega)];have:decide (r.length<=8)=false:=by simp;omega
 rw[this];simp
theorem Zj3 (g:Good t)(r:List Int)(hN:200<=N):Zcx N ⟨t⟩ r=some (ZbN t r):=by
 by_cases h:r.length<=100
 ·exact ZhY g h hN
 unfold Zcx ZbN;rw[Zar (by simp;omega)];have:decide (r.length<=8)=false:=by simp;omega
 rw[this];simp
theorem ZmD {r:List Int}(h:ZbN t r=true):r.length<=100:=by have:=Zca h;omega
theorem Zha (r:List Int)(hN:200<=N):ZeX N t r=some (errR t r):=by
 by_cases h:r.length<=100
 ·exact ZfN h hN
 unfold ZeX errR;rw[Zgw (by omega),Zag];cases hT:Zez t with
 |false=>rfl
 |true=>
  simp only[Zas,Zam,Zg,Zap];rw[Zj3 (Zbo.1 hT) r hN,Zag];cases ZbN t r<;>rfl
theorem Zqf (r:List Int)(hN:200<=N):Ze2 N t r=some (if errR t r=0 then(nd t r 0,nd t r r.length,0)else(0,0,errR t r)):=by
 by_cases he:errR t r=0
 ·rw[Zar he];exact Zqd (ZmD (Zks.1 he).2) hN he
 rw[Zaq he];by_cases h:r.length<=100
 ·exact Zqe h hN he
 have hne:(errR t r !=0)=true:=by simpa using he
 unfold Ze2 ZeW ZdL;rw[Zha r hN];simp only[Zag,hne,Zas]
theorem ZoU (a b:List Int)(hN:200<=N):
  ZeY N t a b=some (if errR t a=0 then(if ZbN t b then(Zp1 t a b,0)else(false,310))else(false,errR t a)):=by
 by_cases ha:a.length<=100
 ·by_cases hb:b.length<=100
  ·exact Zqh ha hb hN
  have hvb:ZbN t b=false:=by
   cases h:ZbN t b with
   |false=>rfl
   |true=>exact absurd (ZmD h) hb
  unfold ZeY ZdK;rw[Zha a hN,Zag];by_cases he:errR t a=0
  ·rw[Zar he,he];simp only[Zam,Zg,Zap];unfold Zem;rw[Zj3 (Zbo.1 (Zks.1 he).1) b hN,hvb];rfl
  rw[Zaq he];have:(errR t a !=0)=true:=by simpa using he
  rw[this];rfl
 have hva:ZbN t a=false:=by
  cases h:ZbN t a with
  |false=>rfl
  |true=>exact absurd (ZmD h) ha
 have he:errR t a≠0:=λe=>by have:=(Zks.1 e).2;rw[hva]at this;cases this
 unfold ZeY ZdK;rw[Zha a hN,Zag,Zaq he];have:(errR t a !=0)=true:=by simpa using he
 rw[this];rfl
def inB (v l h:Int):Bool:=decide (v≥l)&&decide (v<=h)
def Zd6 (u:Zay):Bool:=inB u.Grid 1 10000&&(inB u.Slack 0 1000&&(inB u.Proc 0 10000&&inB u.Cap 1542 65536))
def Zp9 (t:Zav)(n:Int):Bool:=Zfb t n&&stB t n
def Zrj (s:Zat):Bool:=
 if s.Class==7 then inB s.Period 1 240&&((s.Bucket.Burst==0)&&(s.Bucket.Rate==0))
 else if s.Class==6 then(s.Period==0)&&(inB s.Bucket.Burst s.Size 1048576&&inB s.Bucket.Rate 1 2097152)else false
def ZgO (t:Zav)(s:Zat)(r:List Int):Bool:=ZbN t r&&((nd t r 0==s.Talker)&&(nd t r r.length==s.Listener))
def Zuv (t:Zav)(s:Zat):Bool:=decide (s.Routes.length<2)||Zp1 t (s.Routes.getD 0 []) (s.Routes.getD 1 [])
def ZuG (t:Zav)(s:Zat):Bool:=
 inB s.Id 1 4095&&(Zp9 t s.Talker&&(Zp9 t s.Listener&&((s.Talker !=s.Listener)&&(inB s.Size 84 1542&&inB s.Deadline 1 1099511627776))))
def lenB (s:Zat):Bool:=decide (1<=s.Routes.length)&&decide (s.Routes.length<=2)
def Zbv (t:Zav)(s:Zat):Bool:=ZuG t s&&(Zrj s&&(lenB s&&(s.Routes.all (ZgO t s)&&Zuv t s)))
theorem Zc9 (v l h:Int):ZbD N v l h=some (inB v l h):=rfl
theorem Zi2 (v l h:Int):Zc7 N v l h=some (inB v l h):=rfl
theorem Zgp (u:Zay):Zda N u=some (if Zd6 u then 0 else 320):=by
 unfold Zda Zd6;simp only[Zc9,Zag];cases inB u.Grid 1 10000<;>cases inB u.Slack 0 1000<;>cases inB u.Proc 0 10000<;>cases inB u.Cap 1542 65536<;>rfl
theorem Zqu (u:Zay):Zi5 N u=some (Zd6 u):=by
 unfold Zi5 Zd6;simp only[Zi2,Zag];cases inB u.Grid 1 10000<;>cases inB u.Slack 0 1000<;>cases inB u.Proc 0 10000<;>cases inB u.Cap 1542 65536<;>rfl
theorem Zvb (g:Good t)(n:Int):inB n 0 (w64 (t.Nodes-1))=Zfb t n:=by
 rw[ZaG (by have:=g.n2;omega) (by have:=g.n12;omega)];unfold inB Zfb
 congr 1
 exact decide_eq_decide.2 ⟨λh=>by omega,λh=>by omega⟩
theorem ZmQ (g:Good t)(n:Int):ZeE N t n=some (Zp9 t n):=by
 unfold ZeE Zp9;simp only[Zc9,Zvb g,Zag];cases h:Zfb t n with
 |false=>rfl
 |true=>simp only[Zas,Zgk g.st h,Zag,Zk]
theorem Zn9 (g:Good t)(n:Int):Zdv N t n=some (Zp9 t n):=by
 unfold Zdv Zp9;simp only[Zi2,Zvb g,Zag];cases h:Zfb t n with
 |false=>rfl
 |true=>simp only[Zas,Zgk g.st h,Zag,Zk]
theorem ZoH (g:Good t)(s:Zat)(r:List Int)(hN:200<=N):ZhF N t r s.Talker s.Listener=some (ZgO t s r):=by
 unfold ZhF ZgO;rw[Zqf r hN,Zag];have hT:=Zbo.2 g;by_cases he:errR t r=0
 ·rw[Zar he,(Zks.1 he).2];rfl
 rw[Zaq he];have hv:ZbN t r=false:=by
  cases h:ZbN t r with
  |false=>rfl
  |true=>exact absurd (Zks.2 ⟨hT,h⟩) he
 have:(errR t r==0)=false:=by simpa using he
 simp only[this,hv,Bool.false_and]
theorem Zmy {α:Type}(l:List α)(d:α)(p:α->Bool):allB l.length (λk=>p (l.getD k d))=l.all p:=by
 rw[Zf,Zbq,Zt];constructor
 ·intro h x hx;obtain⟨k,hk,rfl⟩:=List.getElem_of_mem hx;have:=h k hk
  rwa [ZbC hk]at this
 intro h k hk;rw[ZbC hk];exact h _ (List.getElem_mem hk)
theorem Zyu {s:Zat}:inB ((List.length s.Routes:Nat):Int) 1 2=lenB s:=by
 unfold inB lenB
 congr 1<;>exact decide_eq_decide.2 ⟨λh=>by omega,λh=>by omega⟩
theorem ZmJ (g:Good t){s:Zat}(hl:lenB s=true)(hN:200<=N):ZeC N s t=some (s.Routes.all (ZgO t s)):=by
 simp only[lenB,Ze,Zao]at hl;unfold ZeC;have:=Zbh (n:=s.Routes.length) (p:=λk=>ZgO t s (s.Routes.getD k [])) (body:=λx:Int=>Zel N s t x) (bad:=.inr false) (fin:=.inl ()) (λk hk=>by
  unfold Zel;rw[Zar (by simp;omega),ZbM hk,Zag,ZbC hk,ZoH g s _ hN,Zag,ZaL (by omega)];cases ZgO t s s.Routes[k]<;>rfl) (by unfold Zel;rw[Zaq (by simp)]) (N:=N) (by omega)
 rw[this,Zmy s.Routes [] (ZgO t s)];cases s.Routes.all (ZgO t s)<;>rfl
theorem Zij {s:Zat}(h:s.Routes.all (ZgO t s)=true){k:Nat}(hk:k<s.Routes.length):ZbN t (s.Routes.getD k [])=true/\nd t (s.Routes.getD k []) 0=s.Talker/\nd t (s.Routes.getD k []) (s.Routes.getD k []).length=s.Listener:=by
 have:=List.all_eq_true.1 h _ (List.getElem_mem hk);rw[ZbC hk];simpa only[ZgO,Ze,beq_iff_eq]using this
theorem ZmH (g:Good t){s:Zat}(hl:lenB s=true)(hr:s.Routes.all (ZgO t s)=true)(hN:200<=N):ZeB N s t=some (Zuv t s):=by
 simp only[lenB,Ze,Zao]at hl;unfold ZeB Zuv;by_cases h2:s.Routes.length<2
 ·rw[Zar (by simp;omega)];simp[h2]
 rw[Zaq (by simp;omega),show(0:Int)=((0:Nat):Int)from rfl,show(1:Int)=((1:Nat):Int)from rfl,ZbM (by omega),ZbM (by omega)];simp only[Zag];have e0:=Zij hr (k:=0) (by omega);have e1:=Zij hr (k:=1) (by omega);rw[ZbC (by omega)]at e0 e1;rw[ZoU _ _ hN,Zar (Zks.2 ⟨Zbo.2 g,e0.1⟩),e1.1,Zag,ZbC (by omega),ZbC (by omega)];simp[h2]
theorem ZjV (g:Good t)(s:Zat)(hN:200<=N):Zf3 N t s=some (Zbv t s):=by
 unfold Zf3 ZfL ZfK ZfJ ZfI ZfH;simp only[Zc9,Zag,ZmQ g,Zyu];unfold Zbv ZuG;cases inB s.Id 1 4095 with
 |false=>rfl
 |true=>
 cases Zp9 t s.Talker with
 |false=>rfl
 |true=>
 cases Zp9 t s.Listener with
 |false=>rfl
 |true=>
 cases h4:(s.Talker !=s.Listener)with
 |false=>simp
 |true=>
 cases h5:inB s.Size 84 1542 with
 |false=>simp
 |true=>
 cases inB s.Deadline 1 1099511627776 with
 |false=>simp
 |true=>
 have hc:ZeD N s=some (Zrj s):=by
  unfold ZeD Zrj;simp only[Zc9,Zag];by_cases c7:(s.Class==7)=true
  ·rw[Zar c7,Zar c7];cases inB s.Period 1 240<;>simp
  rw[Zaq c7,Zaq c7];by_cases c6:(s.Class==6)=true
  ·rw[Zar c6,Zar c6];cases s.Period==0 with
   |false=>rfl
   |true=>
    simp only[Zas];unfold Zku Zev;simp only[Zag];simp only[inB,Ze,Zao]at h5;unfold inB;by_cases q1:s.Bucket.Burst≥s.Size
    ·have q2:(1:Int)<=s.Bucket.Burst:=by omega
     by_cases q3:s.Bucket.Burst<=1048576<;>by_cases q4:(1:Int)<=s.Bucket.Rate<;>by_cases q5:s.Bucket.Rate<=2097152<;>simp[q1,q2,q3,q4,q5,ge_iff_le]
    by_cases q2:(1:Int)<=s.Bucket.Burst<;>by_cases q3:s.Bucket.Burst<=1048576<;>by_cases q4:(1:Int)<=s.Bucket.Rate<;>by_cases q5:s.Bucket.Rate<=2097152<;>simp[q1,q2,q3,q4,q5,ge_iff_le]
  rw[Zaq c6,Zaq c6]
 rw[hc];cases Zrj s with
 |false=>simp
 |true=>
 cases hl:lenB s with
 |false=>simp
 |true=>
 rw[ZmJ g hl hN];cases hr:s.Routes.all (ZgO t s)with
 |false=>simp
 |true=>
 rw[ZmH g hl hr hN];cases Zuv t s<;>simp
end
end Go.Sh

namespace Go.Sh
open Go Go.Eng
theorem Zuz {κ υ:Type}[DecidableEq κ](l:List (κ×υ))(x y:κ)(v z:υ):Zh8 (Zec l x v) y z=if y=x then v else Zh8 l y z:=by
 induction l with
 |nil=>
  unfold Zh8 ZtD;simp only[Zec,Zz,List.find?_nil];by_cases e:x=y
  ·subst e;simp
  simp[e,Ne.symm e]
 |cons p r ih=>
  unfold Zh8 ZtD at ih⊢;simp only[Zec];by_cases e:p.1=x
  ·subst e;simp only[Zas,Zz];by_cases e:p.1=y
   ·subst e;simp
   simp[e,Ne.symm e]
  simp only[e,Zap,Zz];by_cases e2:p.1=y
  ·subst e2;simp[e]
  simp only[e2,decide_false];exact ih
structure ZfE (u:Zay):Prop where
 g1:1<=u.Grid
 g2:u.Grid<=10000
 s1:0<=u.Slack
 s2:u.Slack<=1000
 p1:0<=u.Proc
 p2:u.Proc<=10000
theorem Zbx {u:Zay}(h:Zd6 u=true):ZfE u:=by
 simp only[Zd6,inB,Ze,Zao]at h;obtain⟨⟨a,b⟩,⟨c,d⟩,⟨e,f⟩,_⟩:=h;exact⟨a,b,c,d,e,f⟩
def Zbt (t:Zav)(u:Zay)(h:ZaX):Int:=h.Open+h.Long+(plk t h.Port).Delay+u.Proc
def hop0 (t:Zav)(s:Zat)(r:List Int):ZaX:=⟨at0 r 0,0,0,0,s.Size*(plk t (at0 r 0)).Per⟩
def Znj (u:Zay)(x:Int):Int:=(x+u.Grid-1)/u.Grid*u.Grid
def hopN (t:Zav)(u:Zay)(s:Zat)(h:ZaX)(p:Int):ZaX:=
 ⟨p,Zbt t u h-2*u.Slack,Zbt t u h+2*u.Slack,Znj u (Zbt t u h+2*u.Slack),s.Size*(plk t p).Per⟩
def ZaY (t:Zav)(u:Zay)(s:Zat)(r:List Int):Nat->ZaX
 |0=>hop0 t s r
 |k+1=>hopN t u s (ZaY t u s r k) (at0 r (k+1))
theorem Zst {u:Zay}(h:ZfE u){x:Int}(hx:0<=x):x<=Znj u x/\Znj u x<x+u.Grid/\Znj u x%u.Grid=0:=by
 unfold Znj;have hg:=h.g1;have e:=Int.mul_ediv_add_emod (x+u.Grid-1) u.Grid;have e1:=Int.emod_nonneg (x+u.Grid-1) (show u.Grid≠0 by omega);have e2:=Int.emod_lt_of_pos (x+u.Grid-1) (show 0<u.Grid by omega);rw[Zo]at e;refine⟨by omega,by omega,?_⟩;exact Int.mul_emod_left _ _
section
variable {N:Nat} {t:Zav} {u:Zay} {s:Zat}
theorem ZgW (g:Good t){p:Int}(hp:Zcy t p=true):1<=(plk t p).Per/\(plk t p).Per<=1000/\0<=(plk t p).Delay/\(plk t p).Delay<=10000:=by
 obtain⟨h1,h2⟩:=ZwV hp;have:=(g.links (Int.tdiv p 2).toNat (by omega)).1;simp only[Zfn,Ze,Zao]at this;exact⟨this.2.2.2.2.1,this.2.2.2.2.2.1,this.2.2.2.2.2.2.1,this.2.2.2.2.2.2.2⟩
def Zkx (s:Zat):Prop:=84<=s.Size/\s.Size<=1542
theorem Zpw (g:Good t)(hs:Zkx s){p:Int}(hp:Zcy t p=true):84<=s.Size*(plk t p).Per/\s.Size*(plk t p).Per<=1542000:=by
 obtain⟨h1,h2,_,_⟩:=ZgW g hp;obtain⟨a,b⟩:=hs;have c:s.Size*1<=s.Size*(plk t p).Per:=Int.mul_le_mul_of_nonneg_left h1 (by omega);have d:s.Size*(plk t p).Per<=s.Size*1000:=Int.mul_le_mul_of_nonneg_left h2 (by omega);omega
structure HB (t:Zav) (k:Nat) (h:ZaX):Prop where
 port:Zcy t h.Port=true
 long1:84<=h.Long
 long2:h.Long<=1542000
 op1:0<=h.Open
 op2:h.Open<=1600000*(k:Int)
theorem HB.told (g:Good t)(hu:ZfE u){k:Nat}{h:ZaX}(hb:HB t k h):h.Open+84<=Zbt t u h/\Zbt t u h<=1600000*(k:Int)+1562000/\h.Open+h.Long<=Zbt t u h:=by
 obtain⟨h1,h2,h3,h4,h5⟩:=hb;obtain⟨_,_,d1,d2⟩:=ZgW g h1;have:=hu.p1;have:=hu.p2;unfold Zbt;omega
theorem Zwa (k:Nat)(r:List Int):(ZaY t u s r k).Port=at0 r k:=by cases k<;>rfl
theorem Zwb (k:Nat)(r:List Int):(ZaY t u s r k).Long=s.Size*(plk t (at0 r k)).Per:=by cases k<;>rfl
theorem ZgR (g:Good t)(hu:ZfE u)(hs:Zkx s){r:List Int}(hp:∀k,k<r.length->Zcy t (at0 r k)=true):∀k,k<r.length->HB t k (ZaY t u s r k)
 |0,hk=>by
  have:=Zpw g hs (hp 0 hk);exact⟨hp 0 hk,this.1,this.2,Int.le_refl 0,by simp[ZaY,hop0]⟩
 |k+1,hk=>by
  have ih:=ZgR g hu hs hp k (by omega);have:=Zpw g hs (hp (k+1) hk);have ht:=ih.told g hu;have h0:=ih.op1;have c:=Zst hu (x:=Zbt t u (ZaY t u s r k)+2*u.Slack) (by have:=hu.s1;omega);have:=hu.s1;have:=hu.s2;have:=hu.g2;refine⟨hp (k+1) hk,?_,?_,?_,?_⟩
  ·show 84<=s.Size*(plk t (at0 r (k+1))).Per;omega
  ·show s.Size*(plk t (at0 r (k+1))).Per<=1542000;omega
  ·show 0<=Znj u (Zbt t u (ZaY t u s r k)+2*u.Slack);omega
  show Znj u (Zbt t u (ZaY t u s r k)+2*u.Slack)<=1600000*((k+1:Nat):Int);omega
def stAt (t:Zav)(u:Zay)(s:Zat)(r:List Int):Nat->ZaX
 |0=>⟨0,0,0,0,0⟩
 |k+1=>ZaY t u s r k
theorem Zxc {σ:Type}(g:Good t)(hu:ZfE u)(hs:Zkx s){r:List Int}(h8:r.length<=8)(hp:∀k,k<r.length->Zcy t (at0 r k)=true){k:Nat}(hk:k<r.length){y:σ->ZaX->Option (σ×Bool)}{b b':σ}
  (hy:y b (ZaY t u s r k)=some (b',true)):ZbR N y s t u r (k:Int) (stAt t u s r k).Port (stAt t u s r k).Early (stAt t u s r k).Late (stAt t u s r k).Open (stAt t u s r k).Long b=
   some (.inl (((k+1:Nat):Int),(ZaY t u s r k).Port,(ZaY t u s r k).Early,(ZaY t u s r k).Late,(ZaY t u s r k).Open,(ZaY t u s r k).Long,b')):=by
 have hL:t.Links.length<=1000:=by have:=g.l24;omega
 have hlen:=Zpw g hs (hp k hk);have hb:=ZgR g hu hs hp k hk;unfold ZbR;rw[Zar (by simp;omega),ZbM hk,Zag];have hat:r[k]=at0 r k:=(ZlQ hk).symm;have key:(if decide ((k:Int)>0)=true then(idx t.Links (w64 (Int.tdiv (stAt t u s r k).Port 2))).bind λe1020=>
    (quoI .i64 (w64 ((w64 ((w64 ((w64 ((w64 ((w64 ((stAt t u s r k).Open+(stAt t u s r k).Long))+e1020.Delay))+u.Proc))+(w64 (2*u.Slack))))+u.Grid))-1)) u.Grid).bind λq1026=>
    (some ((w64 ((w64 ((w64 ((w64 ((stAt t u s r k).Open+(stAt t u s r k).Long))+e1020.Delay))+u.Proc))-(w64 (2*u.Slack)))),(w64 ((w64 ((w64 ((w64 ((stAt t u s r k).Open+(stAt t u s r k).Long))+e1020.Delay))+u.Proc))+(w64 (2*u.Slack)))),(w64 (q1026*u.Grid))))
   else some ((stAt t u s r k).Early,(stAt t u s r k).Late,(stAt t u s r k).Open))=some ((ZaY t u s r k).Early,(ZaY t u s r k).Late,(ZaY t u s r k).Open):=by
  cases k with
  |zero=>rw[Zaq (by simp)];rfl
  |succ j=>
   rw[Zar (by simp only[Zao];omega)];have hbj:=ZgR g hu hs hp j (by omega);obtain⟨o1,o2,o3⟩:=hbj.told g hu;obtain⟨_,_,d1,d2⟩:=ZgW g hbj.port;obtain⟨g1,g2,s1,s2,p1,p2⟩:=hu;have l1:=hbj.long1;have l2:=hbj.long2;have l3:=hbj.op1;have l4:=hbj.op2;have hj:(j:Int)<=8:=by omega
   show((idx t.Links (w64 (Int.tdiv (ZaY t u s r j).Port 2))).bind λe1020=>_)=_;rw[ZnF hL hbj.port,Zag];have e1:w64 ((ZaY t u s r j).Open+(ZaY t u s r j).Long)=(ZaY t u s r j).Open+(ZaY t u s r j).Long:=ZaG (by omega) (by omega);have e2:w64 ((ZaY t u s r j).Open+(ZaY t u s r j).Long+(plk t (ZaY t u s r j).Port).Delay)=(ZaY t u s r j).Open+(ZaY t u s r j).Long+(plk t (ZaY t u s r j).Port).Delay:=ZaG (by omega) (by omega);have e3:w64 ((ZaY t u s r j).Open+(ZaY t u s r j).Long+(plk t (ZaY t u s r j).Port).Delay+u.Proc)=Zbt t u (ZaY t u s r j):=ZaG (by omega) (by omega);have e4:w64 (2*u.Slack)=2*u.Slack:=ZaG (by omega) (by omega);simp only[stAt,e1,e2,e3,e4];have e5:w64 (Zbt t u (ZaY t u s r j)+2*u.Slack)=Zbt t u (ZaY t u s r j)+2*u.Slack:=ZaG (by omega) (by omega);have e6:w64 (Zbt t u (ZaY t u s r j)-2*u.Slack)=Zbt t u (ZaY t u s r j)-2*u.Slack:=ZaG (by omega) (by omega);have e7:w64 (Zbt t u (ZaY t u s r j)+2*u.Slack+u.Grid)=Zbt t u (ZaY t u s r j)+2*u.Slack+u.Grid:=ZaG (by omega) (by omega);have e8:w64 (Zbt t u (ZaY t u s r j)+2*u.Slack+u.Grid-1)=Zbt t u (ZaY t u s r j)+2*u.Slack+u.Grid-1:=ZaG (by omega) (by omega);rw[e5,e6,e7,e8,Zjc (by omega),Zag];have hn:0<=Zbt t u (ZaY t u s r j)+2*u.Slack+u.Grid-1:=by omega
   rw[Zp hn];have q1:0<=(Zbt t u (ZaY t u s r j)+2*u.Slack+u.Grid-1)/u.Grid:=Int.ediv_nonneg hn (by omega);have q2:(Zbt t u (ZaY t u s r j)+2*u.Slack+u.Grid-1)/u.Grid<=Zbt t u (ZaY t u s r j)+2*u.Slack+u.Grid-1:=Int.ediv_le_self _ hn;have e9:IntKind.i64.wrap ((Zbt t u (ZaY t u s r j)+2*u.Slack+u.Grid-1)/u.Grid)=(Zbt t u (ZaY t u s r j)+2*u.Slack+u.Grid-1)/u.Grid:=ZaG (by omega) (by omega);have c:=Zst ⟨g1,g2,s1,s2,p1,p2⟩ (x:=Zbt t u (ZaY t u s r j)+2*u.Slack) (by omega);have e10:w64 ((Zbt t u (ZaY t u s r j)+2*u.Slack+u.Grid-1)/u.Grid*u.Grid)=Znj u (Zbt t u (ZaY t u s r j)+2*u.Slack):=ZaG (by unfold Znj at c;omega) (by unfold Znj at c;omega);rw[e9,e10];rfl
 rw[key,Zag,hat,ZnF hL (hp k hk),Zag];have e11:w64 (s.Size*(plk t (at0 r k)).Per)=s.Size*(plk t (at0 r k)).Per:=ZaG (by omega) (by omega);have e12:(ZaX.mk (at0 r k) (ZaY t u s r k).Early (ZaY t u s r k).Late (ZaY t u s r k).Open (s.Size*(plk t (at0 r k)).Per))=ZaY t u s r k:=by
  cases k<;>rfl
 rw[e11];simp only;rw[e12,hy,Zag,ZaL (by omega)];simp only[Zi,Zg,Zap,Zwa,Zwb]
theorem Zvd {σ:Type}(g:Good t)(hu:ZfE u)(hs:Zkx s){r:List Int}(hr:ZbN t r=true){y:σ->ZaX->Option (σ×Bool)}(G:Nat->σ)(hy:∀k,k<r.length->y (G k) (ZaY t u s r k)=some (G (k+1),true)){kk:Int}
  (hk:idx s.Routes kk=some r) (hN:200<=N):Zdr N y s kk t u (G 0)=some (G r.length):=by
 obtain⟨h1,h8,hp⟩:=Zca hr;unfold Zdr;rw[hk,Zag];have key:∀(M m N k:Nat),r.length-k=m->k<=r.length->m<N->ZaO (λx:Int×Int×Int×Int×Int×Int×σ=>ZbR M y s t u r x.1 x.2.1 x.2.2.1 x.2.2.2.1 x.2.2.2.2.1 x.2.2.2.2.2.1 x.2.2.2.2.2.2) N ((k:Int),(stAt t u s r k).Port,(stAt t u s r k).Early,(stAt t u s r k).Late,(stAt t u s r k).Open,(stAt t u s r k).Long,G k)=some (.inl (G r.length)):=by
  intro M m;induction m with
  |zero=>
   intro N k e1 e2 e3;obtain rfl:k=r.length:=by omega
   cases N with
   |zero=>omega
   |succ N=>
    rw[Za5 (r:=(.inl (G r.length)))];show ZbR _ y s t u r ((r.length:Nat):Int) _ _ _ _ _ _=_;unfold ZbR;rw[Zaq (by simp)]
  |succ m ih=>
   intro N k e1 e2 e3;cases N with
   |zero=>omega
   |succ N=>
    have hst:=Zxc (N:=M) g hu hs h8 hp (k:=k) (by omega) (hy k (by omega));rw[ZbL (y:=(((k+1:Nat):Int),(ZaY t u s r k).Port,(ZaY t u s r k).Early,(ZaY t u s r k).Late,(ZaY t u s r k).Open,(ZaY t u s r k).Long,G (k+1))) hst];exact ih N (k+1) (by omega) (by omega) (by omega)
 have:=key N r.length N 0 (by omega) (by omega) (by omega);rw[show((0:Nat):Int)=0 from rfl]at this;have e:(ZaO (λx:Int×Int×Int×Int×Int×Int×σ=>ZbR N y s t u r x.1 x.2.1 x.2.2.1 x.2.2.2.1 x.2.2.2.2.1 x.2.2.2.2.2.1 x.2.2.2.2.2.2) N (0,0,0,0,0,0,G 0))=some (.inl (G r.length)):=this;rw[e];rfl
theorem ZlY (k:Int)(hN:200<=N):Zif N t u s k=some (if Zez t then(if Zd6 u then(if Zbv t s then(if s.Class=7/\0<=k/\k<s.Routes.length then 0 else 2)else 321)else 320)else 260):=by
 unfold Zif;rw[Zgw (by omega),Zag];cases hT:Zez t with
 |false=>rfl
 |true=>
  simp only[Zas,Zam,Zg,Zap];rw[Zgp,Zag];cases hU:Zd6 u with
  |false=>rfl
  |true=>
   simp only[Zas,Zam,Zg,Zap];rw[ZjV (Zbo.1 hT) s hN,Zag];cases hS:Zbv t s with
   |false=>rfl
   |true=>
    rw[Zaq (by simp:¬(!true)=true),Zar (rfl:true=true)];have hl:1<=s.Routes.length/\s.Routes.length<=2:=by
     simp only[Zbv,lenB,Ze,Zao]at hS;exact hS.2.2.1
    rw[ZaG (by omega) (by omega),Zc9];have hb:inB k 0 ((s.Routes.length:Int)-1)=decide (0<=k/\k<(s.Routes.length:Int)):=by
     rw[Zf];simp only[inB,Ze,Zao];omega
    rw[hb];by_cases hc:s.Class=7
    ·have h7:(s.Class !=7)=false:=by simp[hc]
     rw[h7];by_cases hk:0<=k/\k<(s.Routes.length:Int)
     ·simp only[Zan hk,hc,hk,and_self,Zas];rfl
     simp only[decide_eq_false hk,hc,hk,and_false,Zap];rfl
    have h7:(s.Class !=7)=true:=by simp[hc]
    rw[h7];simp only[hc,false_and,Zap,Zas];rfl
def Ze3 (s:Zat)(k:Int):List Int:=s.Routes.getD k.toNat []
theorem Zd4 (h:Zbv t s=true):Zkx s:=by
 simp only[Zbv,ZuG,inB,Ze,Zao]at h;exact h.1.2.2.2.2.1
theorem Zk2 (h:Zbv t s=true):(1<=s.Routes.length/\s.Routes.length<=2)/\s.Routes.all (ZgO t s)=true:=by
 simp only[Zbv,lenB,Ze,Zao]at h;exact⟨h.2.2.1,h.2.2.2.1⟩
theorem Zs3 (h:Zbv t s=true){k:Int}(h0:0<=k)(hk:k<s.Routes.length):idx s.Routes k=some (Ze3 s k)/\ZbN t (Ze3 s k)=true:=by
 refine⟨ZbX [] h0 hk,(Zij (Zk2 h).2 (k:=k.toNat) (by omega)).1⟩
theorem Zge (hT:Zez t=true)(hU:Zd6 u=true)(hS:Zbv t s=true){k:Int}(hc:s.Class=7)(h0:0<=k)(hk:k<s.Routes.length)(hN:200<=N):
  Zfu N t u s k=some ((List.range (Ze3 s k).length).map (ZaY t u s (Ze3 s k)),0):=by
 obtain⟨e1,e2⟩:=Zs3 hS h0 hk;have h8:=(Zca e2).2.1;unfold Zfu;rw[ZlY k hN,hT,hU,hS,Zar rfl,Zar rfl,Zar rfl,Zar ⟨hc,h0,hk⟩,Zag,Zaq (by decide)];show(Zdr N _ s k t u []).bind _=_;have:=Zvd (N:=N) (Zbo.1 hT) (Zbx hU) (Zd4 hS) e2 (y:=λ(s:(List ZaX)) (x12:ZaX)=>ZdS (λv:(List ZaX)=>ZcF N v x12) s) (λj=>(List.range j).map (ZaY t u s (Ze3 s k))) (λj hj=>by
  show ZdS (λv=>ZcF N v (ZaY t u s (Ze3 s k) j)) _=_;unfold ZdS ZcF;simp only;rw[ZhV (by simp;omega) (by omega),Z7,ZZ];rfl) e1 hN
 simp only[List.range_zero,Z1]at this;rw[this];rfl
theorem ZnS (hT:Zez t=true)(hU:Zd6 u=true)(hS:Zbv t s=true){k:Int}(hc:s.Class=7)(h0:0<=k)(hk:k<s.Routes.length)(hN:200<=N):
  ZiK N t u s k=some (Zbt t u (ZaY t u s (Ze3 s k) ((Ze3 s k).length-1)),0):=by
 obtain⟨e1,e2⟩:=Zs3 hS h0 hk;obtain⟨h1,h8,hp⟩:=Zca e2;have g:=Zbo.1 hT;have hL:t.Links.length<=1000:=by have:=g.l24;omega
 unfold ZiK;rw[ZlY k hN,hT,hU,hS,Zar rfl,Zar rfl,Zar rfl,Zar ⟨hc,h0,hk⟩,Zag,Zaq (by decide)];show(Zdr N _ s k t u 0).bind _=_;have:=Zvd (N:=N) g (Zbx hU) (Zd4 hS) e2 (y:=λ(s:Int) (x21:ZaX)=>ZdS (λv:Int=>ZcE N t u v x21) s) (λj=>if j=0 then 0 else Zbt t u (ZaY t u s (Ze3 s k) (j-1))) (λj hj=>by
  show ZdS (λv=>ZcE N t u v (ZaY t u s (Ze3 s k) j)) _=_;unfold ZdS ZcE;have hb:=ZgR g (Zbx hU) (Zd4 hS) hp j hj;obtain⟨o1,o2,o3⟩:=hb.told g (Zbx hU);obtain⟨_,_,d1,d2⟩:=ZgW g hb.port;have l1:=hb.long1;have l2:=hb.long2;have l3:=hb.op1;have l4:=hb.op2;have q:=(Zbx hU).p1;have q':=(Zbx hU).p2;simp only;rw[ZnF hL hb.port,Zag,ZaG (x:=(ZaY t u s (Ze3 s k) j).Open+(ZaY t u s (Ze3 s k) j).Long) (by omega) (by omega),ZaG (x:=(ZaY t u s (Ze3 s k) j).Open+(ZaY t u s (Ze3 s k) j).Long+_) (by omega) (by omega)];rw[show w64 ((ZaY t u s (Ze3 s k) j).Open+(ZaY t u s (Ze3 s k) j).Long+(plk t (ZaY t u s (Ze3 s k) j).Port).Delay+u.Proc)=Zbt t u (ZaY t u s (Ze3 s k) j)from ZaG (by omega) (by omega)];rw[Zaq (Nat.succ_ne_zero j)];rfl) e1 hN
 rw[Zar rfl]at this;rw[this,Zag,Zaq (by omega)]
def dS:Zat:=⟨0,0,0,0,0,0,⟨0,0⟩,0,[]⟩
def idAt (l:List Zat)(k:Nat):Int:=(l.getD k dS).Id
def Zsc (l:List Zat)(k:Nat):Bool:=!((List.range k).any λj=>idAt l j==idAt l k)
def allR (t:Zav)(l:List Zat):Int:=if Zez t then(if l.length<=12 then(if l.all (Zbv t)then(if allB l.length (Zsc l)then 0 else 322)else 321)else 3)else 260
theorem ZhH (l:List Zat)(hN:200<=N):Zd3 N t l=some (allR t l):=by
 unfold Zd3 allR;rw[Zgw (by omega),Zag];cases hT:Zez t with
 |false=>rfl
 |true=>
  have g:=Zbo.1 hT;simp only[Zas,Zam,Zg,Zap];by_cases h12:l.length<=12
  ·rw[Zaq (by simp;omega),Zar h12];have:=Zbh (n:=l.length) (p:=λk=>Zbv t (l.getD k dS)) (body:=λx:Int=>ZdU N t l x) (bad:=.inr 321) (fin:=.inl ()) (λk hk=>by
    unfold ZdU;rw[Zar (by simp;omega),ZbM hk,Zag,ZbC hk,ZjV g _ hN,Zag,ZaL (by omega)];cases Zbv t l[k]<;>rfl) (by unfold ZdU;rw[Zaq (by simp)]) (N:=N) (by omega)
   rw[this,Zmy l dS (Zbv t)];cases l.all (Zbv t)with
   |false=>rfl
   |true=>
    simp only[Zas,Zag];have:=(Zjm (n:=l.length) (p:=Zsc l) (f:=λ(b:List (Int×Bool)) k=>Zec b (idAt l k) true) (body:=λx:Int×(List (Int×Bool))=>ZbJ N l x.1 x.2) (bad:=.inr 322) (fin:=λ_=>.inl ())
     (λk b=>∀x,Zh8 b x false=(List.range k).any λj=>idAt l j==x)
     (λk b hk hb=>by
      show ZbJ N l (k:Int) b=_;unfold ZbJ;rw[Zar (by simp;omega),ZbM hk,Zag];have hid:l[k].Id=idAt l k:=by unfold idAt;rw[ZbC hk]
      rw[hid,hb,ZaL (by omega)];unfold Zsc;cases (List.range k).any λj=>idAt l j==idAt l k<;>rfl)
     (λk b hk hb _ x=>by
      rw[Zuz,hb,Z7,List.any_append];by_cases e:x=idAt l k
      ·subst e;simp
      have:(idAt l k==x)=false:=by simpa using Ne.symm e
      simp[e,this])
     (λb hb=>by show ZbJ N l (l.length:Int) b=_;unfold ZbJ;rw[Zaq (by simp)]) (N:=N) (by omega) (b0:=[]) (λx=>rfl)).1
    rw[this];cases allB l.length (Zsc l)<;>rfl
  rw[Zar (by simp;omega),Zaq h12]
end
end Go.Sh

namespace Go.Sh
open Go Go.Eng
def PF (p:Int->Bool)(k:Nat):List Int:=((List.range k).map (λ(n:Nat)=>(n:Int))).filter p
theorem ZxH (p:Int->Bool)(k:Nat):PF p (k+1)=if p (k:Int)=true then PF p k++[(k:Int)]else PF p k:=by
 unfold PF;rw[Z7,ZZ,List.filter_append];by_cases h:p (k:Int)=true
 ·rw[Zar h];simp[h]
 rw[Zaq h];simp[h]
theorem Zy6 (p:Int->Bool)(k:Nat):(PF p k).length<=k:=by
 induction k with
 |zero=>simp[PF]
 |succ k ih=>
  rw[ZxH];split
  ·rw[ZS,ZX];omega
  omega
theorem ZL7 {p:Int->Bool}{k:Nat}{x:Int}:x∈PF p k↔0<=x/\x<k/\p x=true:=by
 unfold PF;simp only[List.mem_filter,List.mem_map,Z2];constructor
 ·rintro⟨⟨n,hn,rfl⟩,hp⟩;exact⟨by omega,by omega,hp⟩
 rintro⟨h0,h1,hp⟩;exact⟨⟨x.toNat,by omega,by omega⟩,hp⟩
section
variable {N:Nat} {t:Zav}
theorem Zpz {β ρ:Type}{n:Nat}{body:Int×β->Option ((Int×β)⊕ρ)}{fin:β->ρ}(I:Nat->β->Prop)
  (hstep:∀k b,k<n->I k b->∃b',body ((k:Int),b)=some (.inl (((k+1:Nat):Int),b'))/\I (k+1) b') (hend:∀b,I n b->body ((n:Int),b)=some (.inr (fin b))):
  ∀(m N k:Nat) (b:β),n-k=m->k<=n->m<N->I k b->∃b',ZaO body N ((k:Int),b)=some (fin b')/\I n b':=by
 intro m;induction m with
 |zero=>
  intro N k b h1 h2 h3 hb;obtain rfl:k=n:=by omega
  cases N with
  |zero=>omega
  |succ N=>exact⟨b,by rw[Za5 (hend b hb)],hb⟩
 |succ m ih=>
  intro N k b h1 h2 h3 hb;cases N with
  |zero=>omega
  |succ N=>
   obtain⟨b',s1,s2⟩:=hstep k b (by omega) hb;obtain⟨b'',i1,i2⟩:=ih N (k+1) b' (by omega) (by omega) (by omega) s2;exact⟨b'',by rw[ZbL s1,i1],i2⟩
end
end Go.Sh
namespace Go.Sh
open Go Go.Eng
def Byte (v:Int):Prop:=0<=v/\v<=255
theorem Ze1 {v:Int}(h:InK .u8 v):Byte v:=by
 exact h.u8
section
variable {N:Nat}
theorem ZgH {l:List Int}(hl:∀x∈l,Byte x)(hlen:l.length<=maxLen){i:Int}(h0:0<=i):∃v,Ze5 N l i=some v/\Byte v:=by
 unfold Ze5;by_cases h:i<(l.length:Int)
 ·rw[Zar (by simpa using h),Zq6 h0 (by omega),Zag];have hb:=hl _ (List.getElem_mem (show i.toNat<l.length by omega));refine⟨_,rfl,?_⟩;obtain⟨b1,b2⟩:=hb;rw[ZaG (by omega) (by omega)];exact⟨b1,b2⟩
 rw[Zaq (by simpa using h)];exact⟨0,rfl,by omega,by omega⟩
theorem Zf5 {v b:Int}(hv:0<=v)(hb:0<b):∃m,remI v b=some m/\0<=m/\m<b:=by
 refine⟨v.tmod b,ZcR (by omega),?_⟩;rw[Zq hv];exact⟨Int.emod_nonneg _ (by omega),Int.emod_lt_of_pos _ hb⟩
theorem Zy8 {d:ZbI}(hp:∀x∈d.Pers,Byte x)(hpl:d.Pers.length<=maxLen)(hd:∀x∈d.Delays,Byte x)(hdl:d.Delays.length<=maxLen){t:Zav}(hS:(t.Station.length:Int)=t.Nodes)(hL:t.Links.length<=24)(a b:Int)(hN:200<=N):
  ∃l:ZaR,l.A=a/\l.B=b/\(Zfb t a=true->Zfb t b=true->a≠b->(stB t a&&stB t b)=false->Zfn t l=true)∧
   Zbs N d t a b=some (if t.Links.length<24/\Zfn t l=true/\(allB t.Links.length λk=>!Zht (lk t k) a b)=true then⟨t.Nodes,t.Station,t.Links++[l]⟩else t):=by
 obtain⟨v1,p1,b1⟩:=ZgH (N:=N) hp hpl (i:=(t.Links.length:Int)) (by omega);obtain⟨v2,p2,b2⟩:=ZgH (N:=N) hd hdl (i:=(t.Links.length:Int)) (by omega);obtain⟨b11,b12⟩:=b1;obtain⟨b21,b22⟩:=b2;have e1:Int.tmod v1 20=v1%20:=Zq b11;have e2:Int.tmod v2 50=v2%50:=Zq b21;have e3:w64 (1+Int.tmod v1 20)=1+v1%20:=by rw[e1,ZaG (by omega) (by omega)]
 refine⟨⟨a,b,1+v1%20,v2%50⟩,rfl,rfl,λh1 h2 h3 h4=>?_,?_⟩
 ·simp only[Zfn,h1,h2,h4,Zk,Bool.not_false,Ze,Zao];refine⟨by simp[h3],by omega,by omega,by omega,by omega⟩
 unfold Zbs;rw[p1,Zag,p2,Zag,e3,e2];by_cases h24:t.Links.length<24
 ·have:(((t.Links.length:Nat):Int)==24)=false:=by simp;omega
  rw[this];simp only[Zg,Zap];rw[Zmd hS,Zag,Zag];cases hlb:Zfn t ⟨a,b,1+v1%20,v2%50⟩with
  |false=>simp
  |true=>
   simp only[Zi,Zg,Zap];have:=Zbh (n:=t.Links.length) (p:=λk=>!Zht (lk t k) a b) (body:=λx:Int=>Zdy N t a b x) (bad:=.inr t) (fin:=.inl ()) (λk hk=>by
    unfold Zdy;rw[Zar (by simp;omega),ZtJ hk,Zag,Zln,Zag,ZaL (by omega)];cases Zht (lk t k) a b<;>rfl) (by unfold Zdy;rw[Zaq (by simp)]) (N:=N) (by omega)
   rw[this];cases hj:allB t.Links.length (λk=>!Zht (lk t k) a b)with
   |false=>simp
   |true=>
    simp only[Zas,Zag];rw[ZhV (by simp;omega) (by omega)];simp[h24]
 have:(((t.Links.length:Nat):Int)==24)=true:=by simp;omega
 rw[this];simp[h24]
end
structure Mk (b n:Nat) (t:Zav):Prop where
 nodes:t.Nodes=n
 st:t.Station=(List.range n).map (λk=>decide (b<=k))
 l24:t.Links.length<=24
 links:∀k,k<t.Links.length->Zfn t (lk t k)=true/\nojB t k=true
 ends:∀k,k<t.Links.length->(lk t k).B<b
def cntA (t:Zav)(x:Int):Nat:=t.Links.countP (λl=>l.A==x)
section
variable {N b n:Nat} {t:Zav}
theorem Mk.stl (h:Mk b n t):(t.Station.length:Int)=t.Nodes:=by rw[h.st,h.nodes];simp
theorem Mk.stB (h:Mk b n t){x:Int}(h0:0<=x)(hx:x<n):stB t x=decide ((b:Int)<=x):=by
 unfold Go.Sh.stB;rw[h.st,ZC,ZK,List.getElem?_range (by omega)];simp only[Zai,Zah];rw[Zf,decide_eq_true_iff,decide_eq_true_iff];omega
theorem Mk.node (h:Mk b n t){x:Int}:Zfb t x=true↔0<=x/\x<n:=by rw[Zhq,h.nodes]
theorem Zed {l:ZaR}{k:Nat}:lk ⟨t.Nodes,t.Station,t.Links++[l]⟩ k=if k<t.Links.length then lk t k else if k=t.Links.length then l else dL:=by
 unfold lk;simp only[ZC];by_cases h:k<t.Links.length
 ·rw[Zar h,ZD h]
 rw[Zaq h,ZE (by omega)];by_cases e:k=t.Links.length
 ·subst e;simp
 rw[Zaq e];have:k-t.Links.length≠0:=by omega
 cases hh:k-t.Links.length with
 |zero=>omega
 |succ m=>simp
theorem ZtK {l x:ZaR}:Zfn ⟨t.Nodes,t.Station,t.Links++[l]⟩ x=Zfn t x:=rfl
theorem Mk.add (h:Mk b n t){l:ZaR}(h24:t.Links.length<24)(hl:Zfn t l=true)(hj:(allB t.Links.length λk=>!Zht (lk t k) l.A l.B)=true)(hb:l.B<b):Mk b n ⟨t.Nodes,t.Station,t.Links++[l]⟩ where
 nodes:=h.nodes
 st:=h.st
 l24:=by simp;omega
 links:=λk hk=>by
  simp only[ZS,ZX]at hk;rw[ZtK];unfold nojB;by_cases hlt:k<t.Links.length
  ·obtain⟨q1,q2⟩:=h.links k hlt;rw[Zed,Zar hlt];refine⟨q1,?_⟩;rw[←q2];unfold nojB;apply ZkS;intro j hj;rw[Zed,Zar (by omega)]
  obtain rfl:k=t.Links.length:=by omega
  rw[Zed,Zaq hlt,Zar rfl];refine⟨hl,?_⟩;rw[←hj];apply ZkS;intro j hj;rw[Zed,Zar hj]
 ends:=λk hk=>by
  simp only[ZS,ZX]at hk;by_cases hlt:k<t.Links.length
  ·rw[Zed,Zar hlt];exact h.ends k hlt
  rw[Zed,Zaq hlt,Zar (by omega)];exact hb
end
end Go.Sh

namespace Go.Sh
open Go Go.Eng
structure DOK (d:ZbI):Prop where
 br:Byte d.Bridges
 sn:Byte d.Stations
 ch:∀x∈d.Chords,Byte x
 ho:∀x∈d.Homes,Byte x
 pe:∀x∈d.Pers,Byte x
 de:∀x∈d.Delays,Byte x
 chl:d.Chords.length<=maxLen
 hol:d.Homes.length<=maxLen
 pel:d.Pers.length<=maxLen
 del:d.Delays.length<=maxLen
theorem DOK.of {d:ZbI}(h:Zlw d):DOK d:=by
 obtain⟨h1,h2,⟨h3,h4⟩,⟨h5,h6⟩,⟨h7,h8⟩,h9,h10⟩:=h;exact⟨Ze1 h1,Ze1 h2,λx hx=>Ze1 (h4 x hx),λx hx=>Ze1 (h6 x hx),λx hx=>Ze1 (h8 x hx),λx hx=>Ze1 (h10 x hx),h3,h5,h7,h9⟩
def brs (d:ZbI):Nat:=1+(d.Bridges%6).toNat
def sts (d:ZbI):Nat:=2+(d.Stations%5).toNat
section
variable {N:Nat} {d:ZbI}
theorem ZpX (h:DOK d):w64 (1+w64 (Int.tmod d.Bridges 6))=((brs d:Nat):Int)/\1<=brs d/\brs d<=6:=by
 obtain⟨b1,b2⟩:=h.br;rw[Zq b1,ZaG (x:=d.Bridges%6) (by omega) (by omega),ZaG (by omega) (by omega)];unfold brs;omega
theorem ZoF (h:DOK d):w64 (2+w64 (Int.tmod d.Stations 5))=((sts d:Nat):Int)/\2<=sts d/\sts d<=6:=by
 obtain⟨b1,b2⟩:=h.sn;rw[Zq b1,ZaG (x:=d.Stations%5) (by omega) (by omega),ZaG (by omega) (by omega)];unfold sts;omega
theorem Mk.with (hd:DOK d){b n:Nat}{t:Zav}(h:Mk b n t){x y:Int}(hx:0<=x/\x<n)(hy:0<=y/\y<b)(hbn:b<=n)(hN:200<=N):
  ∃t',Zbs N d t x y=some t'/\Mk b n t'/\(t'=t∨∃l:ZaR,l.A=x/\l.B=y/\t'=⟨t.Nodes,t.Station,t.Links++[l]⟩)∧
   (x≠y->t.Links.length<24->(∀k,k<t.Links.length->Zht (lk t k) x y=false)->∃l:ZaR,l.A=x/\l.B=y/\t'=⟨t.Nodes,t.Station,t.Links++[l]⟩):=by
 obtain⟨l,hA,hB,hl,e⟩:=Zy8 (N:=N) hd.pe hd.pel hd.de hd.del h.stl h.l24 x y hN;refine⟨_,e,?_,?_,?_⟩
 ·split
  ·rename_i hc;exact h.add hc.1 hc.2.1 (by rw[hA,hB];exact hc.2.2) (by rw[hB];exact hy.2)
  exact h
 ·split
  ·exact .inr ⟨l,hA,hB,rfl⟩
  exact .inl rfl
 intro hne h24 hj;refine⟨l,hA,hB,Zar ⟨h24,hl (h.node.2 hx) (h.node.2 ⟨hy.1,by omega⟩) hne ?_,Zbq.2 λk hk=>by rw[hj k hk];rfl⟩⟩;rw[h.stB hy.1 (by omega),decide_eq_false (by omega),Bool.and_false]
theorem Zmu {t:Zav}{l:ZaR}(x:Int):cntA ⟨t.Nodes,t.Station,t.Links++[l]⟩ x=cntA t x+(if l.A=x then 1 else 0):=by
 unfold cntA;simp only[List.countP_append,List.countP_cons,List.countP_nil];by_cases h:l.A=x<;>simp[h]
structure Row (b n c h:Nat) (t:Zav):Prop extends Mk b n t where
 len:c+h<=t.Links.length
 chain:∀j,j<c->(lk t j).A=j/\(lk t j).B=((j+1:Nat):Int)
 home:∀j,j<h->(lk t (c+j)).A=((b+j:Nat):Int)
theorem Row.keep {b n c h:Nat}{t:Zav}(r:Row b n c h t){l:ZaR}(hm:Mk b n ⟨t.Nodes,t.Station,t.Links++[l]⟩):Row b n c h ⟨t.Nodes,t.Station,t.Links++[l]⟩:=
 {hm with
  len:=by have:=r.len;simp;omega
  chain:=λj hj=>by rw[Zed,Zar (by have:=r.len;omega)];exact r.chain j hj
  home:=λj hj=>by rw[Zed,Zar (by have:=r.len;omega)];exact r.home j hj}
abbrev tp (x:Int×List Bool×List ZaR):Zav:=⟨x.1,x.2.1,x.2.2⟩
theorem Zzj (hd:DOK d)(hN:200<=N):ZaO (λx:Int×(List Bool)=>Zb1 N d x.1 x.2) N (0,[])=some ((List.range (brs d+sts d)).map (λk=>decide (brs d<=k))):=by
 obtain⟨b1,b2,b3⟩:=ZpX hd;obtain⟨s1,s2,s3⟩:=ZoF hd;have:=ZdQ (n:=brs d+sts d) (f:=λ_ k=>(List.range (k+1)).map (λk=>decide (brs d<=k))) (body:=λx:Int×(List Bool)=>Zb1 N d x.1 x.2) (fin:=λb=>b) (λk b=>b=(List.range k).map (λk=>decide (brs d<=k)))
  (λk b hk hb=>by
   show Zb1 N d k b=_;unfold Zb1;subst hb;rw[b1,s1,ZaG (show -9223372036854775808<=((brs d:Nat):Int)+((sts d:Nat):Int)by omega) (by omega),Zar (by simp;omega),ZhV (by simp;omega) (by omega),Zag,ZaL (by omega),Z7,ZZ];have:decide ((k:Int)≥((brs d:Nat):Int))=decide (brs d<=k):=by rw[Zf,decide_eq_true_iff,decide_eq_true_iff];omega
   rw[this];rfl)
  (λk b hk hb=>rfl)
  (λb hb=>by
   show Zb1 N d ((brs d+sts d:Nat):Int) b=_;unfold Zb1;rw[b1,s1,ZaG (show -9223372036854775808<=((brs d:Nat):Int)+((sts d:Nat):Int)by omega) (by omega),Zaq (by simp)]) (N:=N) (by omega) (b0:=[]) (by simp)
 rw[this.1,this.2]
theorem Zzi (hd:DOK d)(hN:200<=N){x:Int×List Bool×List ZaR}(hx:Mk (brs d) (brs d+sts d) (tp x))(hx0:x.2.2=[]):
  ∃x',ZaO (λx:Int×Int×(List Bool)×(List ZaR)=>Zb0 N d x.1 x.2.1 x.2.2.1 x.2.2.2) N (1,x)=some x'/\Row (brs d) (brs d+sts d) (brs d-1) 0 (tp x')/\x'.2.2.length=brs d-1/\∀s,s<sts d->cntA (tp x') ((brs d+s:Nat):Int)=0:=by
 obtain⟨b1,b2,b3⟩:=ZpX hd;obtain⟨s1,s2,s3⟩:=ZoF hd;have:=Zpz (n:=brs d) (fin:=λb:Int×List Bool×List ZaR=>b) (body:=λx:Int×Int×(List Bool)×(List ZaR)=>Zb0 N d x.1 x.2.1 x.2.2.1 x.2.2.2)
  (λk b=>1<=k/\Row (brs d) (brs d+sts d) (k-1) 0 (tp b)/\b.2.2.length=k-1/\∀s,s<sts d->cntA (tp b) ((brs d+s:Nat):Int)=0)
  (λk b hk ⟨hk1,hr,hl,hc⟩=>by
   have hlen:(tp b).Links.length=k-1:=hl;obtain⟨t',w1,w2,_,w4⟩:=hr.toMk.with (N:=N) hd (x:=(k:Int)-1) (y:=(k:Int)) (by omega) (by omega) (by omega) hN;obtain⟨l,lA,lB,le⟩:=w4 (by omega) (by omega) (λj hj=>by
    have hj':j<k-1:=by omega
    obtain⟨c1,c2⟩:=hr.chain j hj';unfold Zht;rw[c1,c2,beq_false_of_ne (show((j:Nat):Int)≠(k:Int)-1 by omega),beq_false_of_ne (show((j:Nat):Int)≠(k:Int)by omega)];rfl)
   subst le;refine⟨(b.1,b.2.1,b.2.2++[l]),?_,by omega,?_,?_,?_⟩
   ·show Zb0 N d k b.1 b.2.1 b.2.2=_;unfold Zb0;rw[b1,Zar (by simp;omega),ZaG (show -9223372036854775808<=(k:Int)-1 by omega) (by omega),w1,Zag,ZaL (by omega)]
   ·refine {w2 with len:=by simp;omega,chain:=λj hj=>?_,home:=λj hj=>by omega};show(lk ⟨(tp b).Nodes,(tp b).Station,(tp b).Links++[l]⟩ j).A=_/\_;rw[Zed];by_cases hj':j<(tp b).Links.length
    ·rw[Zar hj'];exact hr.chain j (by omega)
    rw[Zaq hj',Zar (by omega),lA,lB];omega
   ·simp;omega
   intro s hs;have:=Zmu (t:=tp b) (l:=l) ((brs d+s:Nat):Int);rw[show cntA (tp (b.1,b.2.1,b.2.2++[l])) _=_ from this,hc s hs,Zaq (by omega)])
  (λb ⟨_,hr,_⟩=>by
   show Zb0 N d ((brs d:Nat):Int) b.1 b.2.1 b.2.2=_;unfold Zb0;rw[b1,Zaq (by simp)]) (brs d-1) N 1 x (by omega) (by omega) (by omega) ⟨by omega,{hx with len:=by simp,chain:=λj hj=>by omega,home:=λj hj=>by omega},by rw[hx0];rfl,λs hs=>by unfold cntA;show List.countP _ x.2.2=0;rw[hx0];rfl⟩
 obtain⟨x',e1,_,e2,e3,e4⟩:=this;exact⟨x',e1,e2,e3,e4⟩
theorem Zzh (hd:DOK d)(hN:200<=N){x:Int×List Bool×List ZaR}(hx:Row (brs d) (brs d+sts d) (brs d-1) 0 (tp x))(hl:x.2.2.length=brs d-1)(hc:∀s,s<sts d->cntA (tp x) ((brs d+s:Nat):Int)=0):
  ∃x',ZaO (λx:Int×Int×(List Bool)×(List ZaR)=>ZbZ N d x.1 x.2.1 x.2.2.1 x.2.2.2) N (0,x)=some x'/\Row (brs d) (brs d+sts d) (brs d-1) (sts d) (tp x')/\∀s,s<sts d->cntA (tp x') ((brs d+s:Nat):Int)=1:=by
 obtain⟨b1,b2,b3⟩:=ZpX hd;obtain⟨s1,s2,s3⟩:=ZoF hd;have:=Zpz (n:=sts d) (fin:=λb:Int×List Bool×List ZaR=>b) (body:=λx:Int×Int×(List Bool)×(List ZaR)=>ZbZ N d x.1 x.2.1 x.2.2.1 x.2.2.2)
  (λk b=>Row (brs d) (brs d+sts d) (brs d-1) k (tp b)/\b.2.2.length=brs d-1+k/\∀s,s<sts d->cntA (tp b) ((brs d+s:Nat):Int)=if s<k then 1 else 0)
  (λk b hk ⟨hr,hl,hc⟩=>by
   have hlen:(tp b).Links.length=brs d-1+k:=hl;obtain⟨v,p1,p2,p3⟩:=ZgH (N:=N) hd.ho hd.hol (i:=2*(k:Int)) (by omega);obtain⟨m,m1,m2,m3⟩:=Zf5 (v:=v) (b:=((brs d:Nat):Int)) p2 (by omega);obtain⟨t',w1,w2,_,w4⟩:=hr.toMk.with (N:=N) hd (x:=((brs d:Nat):Int)+(k:Int)) (y:=m) (by omega) (by omega) (by omega) hN;obtain⟨l,lA,lB,le⟩:=w4 (by omega) (by omega) (λj hj=>by
    have hB:=hr.ends j hj;have hA:(lk (tp b) j).A≠((brs d:Nat):Int)+(k:Int):=by
     by_cases hj':j<brs d-1
     ·rw[(hr.chain j hj').1];omega
     have:=hr.home (j-(brs d-1)) (by omega);rw[show brs d-1+(j-(brs d-1))=j by omega]at this;rw[this];omega
    unfold Zht;rw[beq_false_of_ne hA,beq_false_of_ne (show(lk (tp b) j).B≠((brs d:Nat):Int)+(k:Int)by omega)];simp)
   subst le;refine⟨(b.1,b.2.1,b.2.2++[l]),?_,?_,?_,?_⟩
   ·show ZbZ N d k b.1 b.2.1 b.2.2=_;unfold ZbZ;rw[b1,s1,Zar (by simp;omega),ZaG (show -9223372036854775808<=2*(k:Int)by omega) (by omega),p1,Zag,m1,Zag,ZaG (show -9223372036854775808<=((brs d:Nat):Int)+(k:Int)by omega) (by omega),w1,Zag,ZaL (by omega)]
   ·refine {w2 with len:=by simp;omega,chain:=λj hj=>?_,home:=λj hj=>?_}
    ·show(lk ⟨(tp b).Nodes,(tp b).Station,(tp b).Links++[l]⟩ j).A=_/\_;rw[Zed,Zar (by omega)];exact hr.chain j hj
    show(lk ⟨(tp b).Nodes,(tp b).Station,(tp b).Links++[l]⟩ (brs d-1+j)).A=_;rw[Zed];by_cases hj':j<k
    ·rw[Zar (by omega)];exact hr.home j hj'
    rw[Zaq (by omega),Zar (by omega),lA];omega
   ·simp;omega
   intro s hs;have:=Zmu (t:=tp b) (l:=l) ((brs d+s:Nat):Int);rw[show cntA (tp (b.1,b.2.1,b.2.2++[l])) _=_ from this,hc s hs];by_cases e:s=k
   ·subst e;rw[Zaq (by omega),Zar (by omega),Zar (by omega)]
   rw[Zaq (show ¬l.A=_ by omega)];by_cases h:s<k
   ·rw[Zar h,Zar (by omega)]
   rw[Zaq h,Zaq (by omega)])
  (λb ⟨hr,_⟩=>by
   show ZbZ N d ((sts d:Nat):Int) b.1 b.2.1 b.2.2=_;unfold ZbZ;rw[s1,Zaq (by simp)]) (sts d) N 0 x (by omega) (by omega) (by omega) ⟨hx,by omega,λs hs=>by rw[hc s hs,Zaq (by omega)]⟩
 obtain⟨x',e1,e2,e3,e4⟩:=this;exact⟨x',e1,e2,λs hs=>by rw[e4 s hs,Zar hs]⟩
theorem Zzg (hd:DOK d)(hN:200<=N){x:Int×List Bool×List ZaR}(hx:Row (brs d) (brs d+sts d) (brs d-1) (sts d) (tp x))(hc:∀s,s<sts d->cntA (tp x) ((brs d+s:Nat):Int)=1):
  ∃x',ZaO (λx:Int×Int×(List Bool)×(List ZaR)=>ZbB N d x.1 x.2.1 x.2.2.1 x.2.2.2) N (0,x)=some x'/\Row (brs d) (brs d+sts d) (brs d-1) (sts d) (tp x')/\∀s,s<sts d->1<=cntA (tp x') ((brs d+s:Nat):Int)/\cntA (tp x') ((brs d+s:Nat):Int)<=2:=by
 obtain⟨b1,b2,b3⟩:=ZpX hd;obtain⟨s1,s2,s3⟩:=ZoF hd;have:=Zpz (n:=sts d) (fin:=λb:Int×List Bool×List ZaR=>b) (body:=λx:Int×Int×(List Bool)×(List ZaR)=>ZbB N d x.1 x.2.1 x.2.2.1 x.2.2.2)
  (λk b=>Row (brs d) (brs d+sts d) (brs d-1) (sts d) (tp b)/\∀s,s<sts d->1<=cntA (tp b) ((brs d+s:Nat):Int)/\cntA (tp b) ((brs d+s:Nat):Int)<=if s<k then 2 else 1)
  (λk b hk ⟨hr,hc⟩=>by
   obtain⟨v,p1,p2,p3⟩:=ZgH (N:=N) hd.ho hd.hol (i:=2*(k:Int)+1) (by omega);obtain⟨m,m1,m2,m3⟩:=Zf5 (v:=v) (b:=((brs d:Nat):Int)) p2 (by omega);have hsame:∀s,s<sts d->1<=cntA (tp b) ((brs d+s:Nat):Int)/\cntA (tp b) ((brs d+s:Nat):Int)<=if s<k+1 then 2 else 1:=λs hs=>by
    obtain⟨q1,q2⟩:=hc s hs;refine⟨q1,?_⟩;split at q2<;>split<;>omega
   have hb:ZbB N d (k:Int) b.1 b.2.1 b.2.2=if(decide (Int.tmod v 3>0))=true then(Zbs N d (tp b) (((brs d:Nat):Int)+(k:Int)) m).bind λr=>some (.inl (((k+1:Nat):Int),r.Nodes,r.Station,r.Links))else some (.inl (((k+1:Nat):Int),b)):=by
    unfold ZbB;rw[b1,s1,Zar (by simp;omega),ZaG (show -9223372036854775808<=2*(k:Int)by omega) (by omega),ZaG (show -9223372036854775808<=2*(k:Int)+1 by omega) (by omega),p1];simp only[Zag,m1,ZaG (show -9223372036854775808<=((brs d:Nat):Int)+(k:Int)by omega) (by omega),ZaL (show k<1000000 by omega)];split
    ·cases Zbs N d (tp b) (((brs d:Nat):Int)+(k:Int)) m<;>rfl
    rfl
   by_cases hv:Int.tmod v 3>0
   ·obtain⟨t',w1,w2,w3,_⟩:=hr.toMk.with (N:=N) hd (x:=((brs d:Nat):Int)+(k:Int)) (y:=m) (by omega) (by omega) (by omega) hN;refine⟨(t'.Nodes,t'.Station,t'.Links),?_,?_⟩
    ·show ZbB N d (k:Int) b.1 b.2.1 b.2.2=_;rw[hb,Zar (by simpa using hv),w1];rfl
    rcases w3 with rfl|⟨l,lA,lB,rfl⟩
    ·exact⟨hr,hsame⟩
    refine⟨hr.keep w2,λs hs=>?_⟩;have:=Zmu (t:=tp b) (l:=l) ((brs d+s:Nat):Int);rw[show cntA (tp ((tp b).Nodes,(tp b).Station,(tp b).Links++[l])) _=_ from this];obtain⟨q1,q2⟩:=hc s hs;by_cases e:s=k
    ·subst e;rw[Zar (by omega),Zar (by omega)];rw[Zaq (by omega)]at q2;omega
    rw[Zaq (show ¬l.A=_ by omega)];exact hsame s hs
   refine⟨b,?_,hr,hsame⟩;show ZbB N d (k:Int) b.1 b.2.1 b.2.2=_;rw[hb,Zaq (by simpa using hv)])
  (λb ⟨hr,_⟩=>by
   show ZbB N d ((sts d:Nat):Int) b.1 b.2.1 b.2.2=_;unfold ZbB;rw[s1,Zaq (by simp)]) (sts d) N 0 x (by omega) (by omega) (by omega) ⟨hx,λs hs=>by rw[hc s hs];split<;>omega⟩
 obtain⟨x',e1,e2,e3⟩:=this;exact⟨x',e1,e2,λs hs=>by have:=e3 s hs;rw[Zar hs]at this;exact this⟩
theorem Zzf (hd:DOK d)(hN:200<=N){x:Int×List Bool×List ZaR}(hx:Row (brs d) (brs d+sts d) (brs d-1) (sts d) (tp x))(hc:∀s,s<sts d->1<=cntA (tp x) ((brs d+s:Nat):Int)/\cntA (tp x) ((brs d+s:Nat):Int)<=2):
  ∃x',ZaO (λx:Int×Int×(List Bool)×(List ZaR)=>Zcm N d x.1 x.2.1 x.2.2.1 x.2.2.2) N (0,x)=some x'/\Row (brs d) (brs d+sts d) (brs d-1) (sts d) (tp x')/\∀s,s<sts d->1<=cntA (tp x') ((brs d+s:Nat):Int)/\cntA (tp x') ((brs d+s:Nat):Int)<=2:=by
 obtain⟨b1,b2,b3⟩:=ZpX hd;obtain⟨s1,s2,s3⟩:=ZoF hd;refine Zb6 (I:=λx:Int×Int×List Bool×List ZaR=>0<=x.1/\Row (brs d) (brs d+sts d) (brs d-1) (sts d) (tp x.2)/\∀s,s<sts d->1<=cntA (tp x.2) ((brs d+s:Nat):Int)/\cntA (tp x.2) ((brs d+s:Nat):Int)<=2) (μ:=λx=>(14-x.1).toNat)
  (Post:=λx'=>Row (brs d) (brs d+sts d) (brs d-1) (sts d) (tp x')/\∀s,s<sts d->1<=cntA (tp x') ((brs d+s:Nat):Int)/\cntA (tp x') ((brs d+s:Nat):Int)<=2) ?_ N (0,x) ⟨by omega,hx,hc⟩ (by simp;omega)
 rintro⟨i,y⟩ ⟨h0,hr,hc⟩;simp only at h0 hr hc;by_cases hi:i<12/\i+1<(d.Chords.length:Int)
 ·left;obtain⟨v1,v2⟩:=hd.ch _ (List.getElem_mem (show i.toNat<d.Chords.length by omega));obtain⟨v3,v4⟩:=hd.ch _ (List.getElem_mem (show(i+1).toNat<d.Chords.length by omega));obtain⟨m,m1,m2,m3⟩:=Zf5 (b:=((brs d:Nat):Int)) v1 (by omega);obtain⟨q,q1,q2,q3⟩:=Zf5 (b:=((brs d:Nat):Int)) v3 (by omega);obtain⟨t',w1,w2,w3,_⟩:=hr.toMk.with (N:=N) hd (x:=m) (y:=q) (by omega) (by omega) (by omega) hN;refine⟨(i+2,t'.Nodes,t'.Station,t'.Links),?_,⟨by simp only;omega,?_⟩,by simp only;omega⟩
  ·show Zcm N d i y.1 y.2.1 y.2.2=_;unfold Zcm;rw[ZaG (show -9223372036854775808<=i+1 by omega) (by omega),Zar (by simp;omega),Zq6 h0 (by omega),Zag,ZaG (by omega) (by omega),b1,m1,Zag,Zq6 (by omega) (by omega),Zag,ZaG (by omega) (by omega),q1,Zag,w1,Zag,ZaG (by omega) (by omega)]
  rcases w3 with rfl|⟨l,lA,lB,rfl⟩
  ·exact⟨hr,hc⟩
  refine⟨hr.keep w2,λs hs=>?_⟩;have:=Zmu (t:=tp y) (l:=l) ((brs d+s:Nat):Int);rw[show cntA (tp ((tp y).Nodes,(tp y).Station,(tp y).Links++[l])) _=_ from this,Zaq (show ¬l.A=_ by omega)];exact hc s hs
 right;refine⟨y,?_,hr,hc⟩;show Zcm N d i y.1 y.2.1 y.2.2=_;unfold Zcm;by_cases h12:i<12
 ·rw[ZaG (by omega) (by omega),Zaq (by simp;omega)]
 rw[Zaq (by simp;omega)]
theorem Zxp (hd:DOK d)(hN:200<=N):∃t,ZdC N d=some t/\Row (brs d) (brs d+sts d) (brs d-1) (sts d) t/\∀s,s<sts d->1<=cntA t ((brs d+s:Nat):Int)/\cntA t ((brs d+s:Nat):Int)<=2:=by
 obtain⟨b1,b2,b3⟩:=ZpX hd;obtain⟨s1,s2,s3⟩:=ZoF hd;unfold ZdC;rw[Zzj hd hN,Zag];have e0:w64 (w64 (1+w64 (Int.tmod d.Bridges 6))+w64 (2+w64 (Int.tmod d.Stations 5)))=((brs d+sts d:Nat):Int):=by rw[b1,s1,ZaG (by omega) (by omega)];omega
 obtain⟨x2,l2,r2,k2,c2⟩:=Zzi (N:=N) hd hN (x:=(((brs d+sts d:Nat):Int),(List.range (brs d+sts d)).map (λk=>decide (brs d<=k)),[])) ⟨rfl,rfl,by simp,λk hk=>by simp at hk,λk hk=>by simp at hk⟩ rfl;rw[e0,l2,Zag];obtain⟨x3,l3,r3,c3⟩:=Zzh (N:=N) hd hN r2 k2 c2;rw[show((0:Int),x2.1,x2.2.1,x2.2.2)=(0,x2)from rfl,l3,Zag];have hring:∃x4:Int×List Bool×List ZaR,(if(decide (w64 (1+w64 (Int.tmod d.Bridges 6))>2)&&(Int.tmod d.Bridges 2==0))=true then(Zbs N d ⟨x3.1,x3.2.1,x3.2.2⟩ (w64 (w64 (1+w64 (Int.tmod d.Bridges 6))-1)) 0).bind λr=>some (r.Nodes,r.Station,r.Links)else some (x3.1,x3.2.1,x3.2.2))=some x4∧
   Row (brs d) (brs d+sts d) (brs d-1) (sts d) (tp x4)/\∀s,s<sts d->cntA (tp x4) ((brs d+s:Nat):Int)=1:=by
  by_cases hc:(decide (w64 (1+w64 (Int.tmod d.Bridges 6))>2)&&(Int.tmod d.Bridges 2==0))=true
  ·rw[Zar hc,b1,ZaG (show -9223372036854775808<=((brs d:Nat):Int)-1 by omega) (by omega)];obtain⟨t',w1,w2,w3,_⟩:=r3.toMk.with (N:=N) hd (x:=((brs d:Nat):Int)-1) (y:=0) (by omega) (by omega) (by omega) hN;refine⟨(t'.Nodes,t'.Station,t'.Links),by rw[w1];rfl,?_⟩;rcases w3 with rfl|⟨l,lA,lB,rfl⟩
   ·exact⟨r3,c3⟩
   refine⟨r3.keep w2,λs hs=>?_⟩;have:=Zmu (t:=tp x3) (l:=l) ((brs d+s:Nat):Int);rw[show cntA (tp ((tp x3).Nodes,(tp x3).Station,(tp x3).Links++[l])) _=_ from this,Zaq (show ¬l.A=_ by omega)];exact c3 s hs
  rw[Zaq hc];exact⟨x3,rfl,r3,c3⟩
 obtain⟨x4,l4,r4,c4⟩:=hring;rw[l4,Zag];obtain⟨x5,l5,r5,c5⟩:=Zzg (N:=N) hd hN r4 c4;rw[show((0:Int),x4.1,x4.2.1,x4.2.2)=(0,x4)from rfl,l5,Zag];obtain⟨x6,l6,r6,c6⟩:=Zzf (N:=N) hd hN r5 c5;rw[show((0:Int),x5.1,x5.2.1,x5.2.2)=(0,x5)from rfl,l6,Zag];exact⟨_,rfl,r6,c6⟩
end
end Go.Sh

namespace Go.Sh
open Go Go.Eng
def cntB (l:List ZaR)(x:Int):Nat:=l.countP (λl=>l.B==x)
theorem Zxg {l:List Int}{i:Nat}{v:Int}{j:Nat}(h:i<l.length):(l.set i v).getD j 0=if j=i then v else l.getD j 0:=by
 rw[ZC,ZC,ZM];by_cases e:j=i
 ·subst e;rw[Zar rfl,Zar h,Zar rfl];rfl
 rw[Zaq (Ne.symm e),Zaq e]
theorem Zvp {b:List Int}{x:Int}(h0:0<=x)(h:x<b.length){j:Nat}(hv:0<=b.getD x.toNat 0/\b.getD x.toNat 0<=1000):(bump b x).getD j 0=b.getD j 0+(if x=j then 1 else 0):=by
 unfold bump;rw[Zxg (by omega)];by_cases e:j=x.toNat
 ·rw[Zar e,Zar (by omega),ZaG (by omega) (by omega),e]
 rw[Zaq e,Zaq (by omega)];omega
theorem Zri {m:Int}:∀(l:List ZaR) (b:List Int) (M:Nat),(b.length:Int)=m->(∀k∈l,(0<=k.A/\k.A<m)/\0<=k.B/\k.B<m)->(∀j:Nat,0<=b.getD j 0/\b.getD j 0<=M)->M+2*l.length<=900->∀j:Nat,
  (l.foldl ZpV b).getD j 0=b.getD j 0+(l.countP (λk=>k.A==(j:Int)):Nat)+(cntB l j:Nat)
 |[],b,M,_,_,_,_,j=>by simp[cntB]
 |k::l,b,M,hb,hl,hM,hle,j=>by
  obtain⟨⟨a1,a2⟩,a3,a4⟩:=hl k (by simp);have g1:∀j:Nat,(bump b k.A).getD j 0=b.getD j 0+(if k.A=j then 1 else 0):=λj=>Zvp a1 (by omega) (by have:=hM k.A.toNat;simp only[ZT]at hle;omega)
  have g2:∀j:Nat,(ZpV b k).getD j 0=b.getD j 0+(if k.A=j then 1 else 0)+(if k.B=j then 1 else 0):=λj=>by
   unfold ZpV;rw[Zvp a3 (by rw[Zvn];omega) (by rw[g1];have:=hM k.B.toNat;simp only[ZT]at hle;split<;>omega),g1]
  rw[ZB,Zri l (ZpV b k) (M+2) (by rw[ZpU];exact hb) (λk hk=>hl k (by simp[hk])) (λj=>by rw[g2];have:=hM j;split<;>split<;>omega) (by simp only[ZT]at hle;omega) j,g2];simp only[cntB,List.countP_cons];by_cases e1:k.A=(j:Int)<;>by_cases e2:k.B=(j:Int)<;>simp[e1,e2]<;>omega
theorem ZqS {l:List Bool}{k:ZaR}{x:Nat}(h:l.getD x false=true):(Zii l k).getD x false=true:=by
 unfold Zii;split
 ·exact Zjn (Zjn h)
 exact h
theorem Zrb {x:Nat}:∀(ks:List ZaR) {l:List Bool},l.getD x false=true->(ks.foldl Zii l).getD x false=true
 |[],l,h=>h
 |k::ks,l,h=>Zrb ks (ZqS h)
theorem Zjo {l:List Bool}{i:Nat}(h:i<l.length):(l.set i true).getD i false=true:=by
 rw[ZC,ZM,Zar rfl,Zar h];rfl
theorem ZqT {l:List Bool}{k:ZaR}(h:l.getD k.A.toNat false=true∨l.getD k.B.toNat false=true)(hA:k.A.toNat<l.length)(hB:k.B.toNat<l.length):(Zii l k).getD k.A.toNat false=true/\(Zii l k).getD k.B.toNat false=true:=by
 unfold Zii;rw[Zar (by rcases h with h|h<;>rw[h]<;>simp)];exact⟨Zjn (Zjo hA),Zjo (by simpa using hB)⟩
theorem ZoV (ks:List ZaR)(l:List Bool):(ks.foldl Zii l).length=l.length:=by
 induction ks generalizing l with
 |nil=>rfl
 |cons k ks ih=>rw[ZB,ih,ZoO]
section
variable {b n c h:Nat} {t:Zav}
theorem ZiU (t:Zav)(l:List Bool):Zj1 t l=t.Links.foldl Zii l:=ZpH dL t.Links Zii l
theorem Row.round (r:Row b n (b-1) (n-b) t)(hb:1<=b)(hbn:b<=n){l:List Bool}(hl:l.length=n)(h0:l.getD 0 false=true):∀x,x<n->(Zj1 t l).getD x false=true:=by
 have hnodes:∀k,k<t.Links.length->(0<=(lk t k).A/\(lk t k).A<n)/\0<=(lk t k).B/\(lk t k).B<n:=λk hk=>by
  have:=ZcW (r.links k hk).1;exact⟨r.toMk.node.1 this.1,r.toMk.node.1 this.2.1⟩
 have hlen:=r.len;have step:∀k,k<=t.Links.length->∀x,x<n->(x<b/\x<=k)∨(b<=x/\b-1+(x-b)<k)->((t.Links.take k).foldl Zii l).getD x false=true:=by
  intro k;induction k with
  |zero=>
   intro _ x hx hc;rcases hc with⟨h1,h2⟩|⟨h1,h2⟩
   ·obtain rfl:x=0:=by omega
    simpa using h0
   omega
  |succ k ih=>
   intro hk x hx hc;have htk:t.Links.take (k+1)=t.Links.take k++[lk t k]:=by
    have:lk t k=t.Links[k]:=by simp[lk,ZC,show k<t.Links.length by omega]
    rw[this,List.take_append_getElem]
   rw[htk,ZA,ZB,List.foldl_nil];have hfl:((t.Links.take k).foldl Zii l).length=n:=by rw[ZoV,hl]
   obtain⟨⟨n1,n2⟩,n3,n4⟩:=hnodes k (by omega);by_cases hold:(x<b/\x<=k)∨(b<=x/\b-1+(x-b)<k)
   ·exact ZqS (ih (by omega) x hx hold)
   rcases hc with⟨h1,h2⟩|⟨h1,h2⟩
   ·have hk1:x=k+1:=by omega
    obtain⟨c1,c2⟩:=r.chain k (by omega);have:=ZqT (k:=lk t k) (l:=(t.Links.take k).foldl Zii l) (.inl (by rw[c1];exact ih (by omega) k (by omega) (.inl ⟨by omega,by omega⟩))) (by omega) (by omega);have e:=this.2;rw[c2]at e;rw[hk1];exact e
   have hk1:k=b-1+(x-b):=by omega
   have c1:=r.home (x-b) (by omega);rw[←hk1]at c1;have hB:=r.ends k (by omega);have:=ZqT (k:=lk t k) (l:=(t.Links.take k).foldl Zii l) (.inr (ih (by omega) (lk t k).B.toNat (by omega) (.inl ⟨by omega,by omega⟩))) (by omega) (by omega);have e:=this.1;rw[c1]at e
   rwa [show(((b+(x-b):Nat):Int)).toNat=x by omega]at e
 intro x hx;rw[ZiU];have:=step t.Links.length (Nat.le_refl _) x hx (by
  by_cases hxb:x<b
  ·exact .inl ⟨hxb,by omega⟩
  exact .inr ⟨by omega,by omega⟩)
 rwa [Zaa]at this
theorem Row.reach (r:Row b n (b-1) (n-b) t)(hb:1<=b)(hbn:b<=n)(hn:1<=n):∀x,x<n->(Zhl t 0).getD x false=true:=by
 have hnod:t.Nodes.toNat=n:=by rw[r.nodes];omega
 unfold Zhl;rw[hnod];have hall:∀m,1<=m->∀x,x<n->((List.range m).foldl (λl _=>Zj1 t l) ((List.replicate n false).set (0:Int).toNat true)).getD x false=true/\((List.range m).foldl (λl _=>Zj1 t l) ((List.replicate n false).set (0:Int).toNat true)).length=n:=by
  intro m hm;induction m with
  |zero=>omega
  |succ m ih=>
   intro x hx;rw[Z7,ZA,ZB,List.foldl_nil];by_cases hm0:m=0
   ·subst hm0;refine⟨r.round hb hbn (by simp) (Zjo (by simp;omega)) x hx,?_⟩;rw[ZiU,ZoV];simp
   obtain⟨i1,i2⟩:=ih (by omega) x hx;exact⟨by rw[ZiU];exact Zrb _ i1,by rw[ZiU,ZoV];exact i2⟩
 exact λx hx=>(hall n hn x hx).1
theorem Row.good (r:Row b n (b-1) (n-b) t)(hb:1<=b)(hbn:b+1<=n)(hn12:n<=12)(hc:∀s,s<n-b->1<=cntA t ((b+s:Nat):Int)/\cntA t ((b+s:Nat):Int)<=2):Good t:=by
 have hnod:t.Nodes.toNat=n:=by rw[r.nodes];omega
 refine⟨by rw[r.nodes];omega,by rw[r.nodes];omega,r.stl,r.l24,r.links,λx hx=>?_⟩;rw[hnod]at hx;refine⟨r.reach hb (by omega) (by omega) x hx,?_⟩;unfold degB;rw[r.stB (by omega) (by omega)];by_cases hxb:(b:Int)<=(x:Int)
 ·have hd:(degs t).getD x 0=(cntA t (x:Int):Nat)+(cntB t.Links x:Nat):=by
   have e0:degs t=t.Links.foldl ZpV (List.replicate n 0):=by rw[←hnod];exact ZpH dL t.Links ZpV _
   rw[e0];have hz:∀j:Nat,(List.replicate n (0:Int)).getD j 0=0:=λj=>by
    rw[ZC,ZL];split<;>rfl
   have:=Zri (m:=(n:Int)) t.Links (List.replicate n 0) 0 (by simp) (λk hk=>by
    obtain⟨i,hi,rfl⟩:=List.getElem_of_mem hk;have e:lk t i=t.Links[i]:=by simp[lk,ZC,hi]
    have:=ZcW (r.links i hi).1;rw[e]at this;exact⟨r.toMk.node.1 this.1,r.toMk.node.1 this.2.1⟩) (λj=>by rw[hz];omega) (by have:=r.l24;omega) x
   rw[this,hz];unfold cntA;omega
  have hB0:cntB t.Links x=0:=by
   unfold cntB;rw[List.countP_eq_zero];intro k hk;obtain⟨i,hi,rfl⟩:=List.getElem_of_mem hk;have e:lk t i=t.Links[i]:=by simp[lk,ZC,hi]
   have:=r.ends i hi;rw[e]at this;simp;omega
  have:=hc (x-b) (by omega);rw[show((b+(x-b):Nat):Int)=(x:Int)by omega]at this;rw[Zan hxb,hd,hB0,Zan (by omega),Zan (by omega)];rfl
 rw[decide_eq_false hxb];rfl
theorem Row.port (r:Row b n (b-1) (n-b) t)(hb:1<=b)(hbn:b+1<=n){x:Int}(h0:0<=x)(hx:x<n):∃k,k<t.Links.length/\((lk t k).A=x∨(lk t k).B=x):=by
 have hlen:=r.len;by_cases hxb:x<b
 ·by_cases hx1:x.toNat<b-1
  ·exact⟨x.toNat,by omega,.inl (by rw[(r.chain x.toNat hx1).1];omega)⟩
  by_cases hb1:b=1
  ·
   have h1:=r.home 0 (by omega);have h2:=r.ends (b-1+0) (by omega);have h3:=ZcW (r.links (b-1+0) (by omega)).1;have h4:=r.toMk.node.1 h3.2.1;exact⟨b-1+0,by omega,.inr (by omega)⟩
  have:=r.chain (b-2) (by omega);exact⟨b-2,by omega,.inr (by rw[this.2];omega)⟩
 have:=r.home (x.toNat-b) (by omega);exact⟨b-1+(x.toNat-b),by omega,.inl (by rw[this];omega)⟩
end
theorem Zwf {N:Nat}{d:ZbI}(hd:DOK d)(hN:200<=N):∃t,ZdC N d=some t/\Good t/\∀x:Int,0<=x->x<t.Nodes->∃k,k<t.Links.length/\((lk t k).A=x∨(lk t k).B=x):=by
 obtain⟨_,b2,b3⟩:=ZpX hd;obtain⟨_,s2,s3⟩:=ZoF hd;obtain⟨t,e,r,c⟩:=Zxp (N:=N) hd hN;have hr:Row (brs d) (brs d+sts d) (brs d-1) (brs d+sts d-brs d) t:=by rw[show brs d+sts d-brs d=sts d by omega];exact r
 refine⟨t,e,hr.good b2 (by omega) (by omega) (λs hs=>c s (by omega)),λx h0 hx=>?_⟩;rw[r.nodes]at hx;exact hr.port b2 (by omega) h0 hx
end Go.Sh

namespace Go.Sh
open Go Go.Eng
section
variable {N:Nat} {t:Zav}
theorem Zqz (g:Good t)(x:Int)(hN:200<=N):Zhi N t x=some (PF (λp=>frm t p==x) (2*t.Links.length)):=by
 have h24:=g.l24;unfold Zhi;have:=ZdQ (n:=2*t.Links.length) (f:=λb k=>PF (λp=>frm t p==x) (k+1)) (body:=λy:Int×(List Int)=>ZdP N t x y.1 y.2) (fin:=λb=>b) (λk b=>b=PF (λp=>frm t p==x) k)
  (λk b hk hb=>by
   show ZdP N t x k b=_;unfold ZdP;subst hb;have:=Zy6 (λp=>frm t p==x) k;have hp:Zcy t (k:Int)=true:=by simp only[Zcy,Ze,Zao];omega
   rw[Zar (by rw[ZaG (by omega) (by omega)];simp;omega),Zeq (by omega) hp,Zag,ZxH,ZaL (by omega)];cases (frm t (k:Int)==x)with
   |false=>rfl
   |true=>simp only[Zas];rw[ZhV (by rw[ZX];omega) (by omega)];rfl)
  (λk b hk hb=>rfl)
  (λb hb=>by show ZdP N t x ((2*t.Links.length:Nat):Int) b=_;unfold ZdP;rw[Zaq (by rw[ZaG (by omega) (by omega)];simp)]) (N:=N) (by omega) (b0:=[]) rfl
 rw[this.1,Zag,this.2]
theorem ZwQ (g:Good t){seen Q:List Int}(hs:seen.length<=100)(hQ:Q.length<=100)(hp:∀p∈Q,Zcy t p=true)(hN:200<=N):
  ZaO (λx:Int×(List Int)=>Zb9 N t seen Q x.1 x.2) N (0,[])=some (Q.filter λp=>!seen.contains (too t p)):=by
 have hL:t.Links.length<=1000:=by have:=g.l24;omega
 have:=ZdQ (n:=Q.length) (f:=λb k=>(Q.take (k+1)).filter λp=>!seen.contains (too t p)) (body:=λx:Int×(List Int)=>Zb9 N t seen Q x.1 x.2) (fin:=λb=>b) (λk b=>b=(Q.take k).filter λp=>!seen.contains (too t p))
  (λk b hk hb=>by
   show Zb9 N t seen Q k b=_;unfold Zb9;subst hb;have hlen:((Q.take k).filter λp=>!seen.contains (too t p)).length<=100:=Nat.le_trans (List.length_filter_le _ _) (by simp;omega);have htk:Q.take (k+1)=Q.take k++[Q[k]]:=by rw[List.take_append_getElem]
   rw[Zar (by simp;omega),ZbM hk,Zag,ZeZ hL (hp _ (List.getElem_mem hk)),Zag,Zi9 (by omega) (by omega),Zag,htk,List.filter_append,ZaL (by omega)];cases hc:seen.contains (too t Q[k])with
   |true=>
    have:[Q[k]].filter (λp=>!seen.contains (too t p))=[]:=by rw[List.filter_cons_of_neg (by rw[hc];simp)];rfl
    rw[this,List.append_nil];rfl
   |false=>
    have:[Q[k]].filter (λp=>!seen.contains (too t p))=[Q[k]]:=by rw[List.filter_cons_of_pos (by rw[hc];rfl)];rfl
    rw[this];simp only[Bool.not_false,Zas,Zag];rw[ZhV (by rw[ZX];omega) (by omega)];rfl)
  (λk b hk hb=>rfl)
  (λb hb=>by show Zb9 N t seen Q Q.length b=_;unfold Zb9;rw[Zaq (by simp)]) (N:=N) (by omega) (b0:=[]) (by simp)
 rw[this.1,this.2,Zaa]
theorem Znk {r:List Int}{p:Int}{k:Nat}:at0 (r++[p]) k=if k<r.length then at0 r k else if k=r.length then p else 0:=by
 unfold at0;simp only[ZC];by_cases h:k<r.length
 ·rw[Zar h,ZD h]
 rw[Zaq h,ZE (by omega)];by_cases e:k=r.length
 ·subst e;simp
 rw[Zaq e];cases hh:k-r.length with
 |zero=>omega
 |succ m=>simp
theorem ZvR {r:List Int}{p m:Int}(hm:r≠[]->frm t (at0 r 0)=m)(h0:r=[]->frm t p=m):Zbm t (r++[p])=(m::r.map (too t))++[too t p]:=by
 unfold Zbm;rw[Znk,ZZ];by_cases h:r=[]
 ·subst h;simp[h0 rfl]
 have:0<r.length:=List.length_pos_iff.2 h;rw[Zar this,hm h];rfl
theorem ZwY {r:List Int}{p m:Int}(hm:r≠[]->frm t (at0 r 0)=m)(h0:r=[]->frm t p=m)(hok:∀k,k<r.length->okAt t r k=true)(hp:Zcy t p=true)
  (hf:frm t p=(m::r.map (too t)).getD r.length 0) (hst:r≠[]->stB t (frm t p)=false) (hnew:(m::r.map (too t)).contains (too t p)=false):∀k,k<(r++[p]).length->okAt t (r++[p]) k=true:=by
 have hN:=ZvR (t:=t) hm h0;have hlen:(m::r.map (too t)).length=r.length+1:=by simp
 have hnd:∀k,k<=r.length->nd t (r++[p]) k=(m::r.map (too t)).getD k 0:=λk hk=>by
  unfold nd;rw[hN,ZC,ZD (by omega),ZC]
 have hlast:nd t (r++[p]) (r.length+1)=too t p:=by
  unfold nd;rw[hN,ZC,ZE (by omega)];simp
 have hold:r≠[]->Zbm t r=m::r.map (too t):=λh=>by unfold Zbm;rw[hm h]
 intro k hk;simp only[ZS,ZX]at hk;unfold okAt;rw[Znk];by_cases hlt:k<r.length
 ·have hne:r≠[]:=by intro e;subst e;simp at hlt
  rw[Zar hlt];have:=hok k hlt;unfold okAt at this;have e1:nd t (r++[p]) k=nd t r k:=by rw[hnd k (by omega)];unfold nd;rw[hold hne]
  have e2:nd t (r++[p]) (k+1)=nd t r (k+1):=by rw[hnd (k+1) (by omega)];unfold nd;rw[hold hne]
  have e3:(Zbm t (r++[p])).take (k+1)=(Zbm t r).take (k+1):=by rw[hN,hold hne,Z9 (by omega)]
  rw[e1,e2,e3];exact this
 obtain rfl:k=r.length:=by omega
 rw[Zaq hlt,Zar rfl,hlast,hnd _ (Nat.le_refl _),←hf,hp,hN,Z9 (by omega),Zab (by omega),hnew];by_cases h:r=[]
 ·subst h;rfl
 rw[hst h];simp
theorem ZvI (g:Good t)(hdeg:∀x:Int,0<=x->x<t.Nodes->∃k,k<t.Links.length/\((lk t k).A=x∨(lk t k).B=x)){n k:Int}(hn:Byte n)(hk:Byte k)(hN:200<=N):∃r,ZkE N t n k=some r/\ZbN t r=true:=by
 have hL:t.Links.length<=1000:=by have:=g.l24;omega
 have h24:=g.l24;have hn2:=g.n2;obtain⟨n0,n1⟩:=hn;obtain⟨k0,k1⟩:=hk;unfold ZkE;rw[ZaG (by omega) (by omega)];obtain⟨m,m1,m2,m3⟩:=Zf5 (v:=n) (b:=t.Nodes) n0 (by omega);rw[m1,Zag];have key:∃o,ZaO (λx:Int×(List Int)×(List Int)=>Zfj N t k x.1 x.2.1 x.2.2) N (m,[m],[])=some o/\∃r,(o=.inl r∨o=.inr r)/\ZbN t r=true:=by
  refine Zb6 (I:=λx:Int×List Int×List Int=>x.2.2.length<=8/\x.2.1=m::x.2.2.map (too t)/\x.1=x.2.1.getD x.2.2.length 0/\(x.2.2≠[]->frm t (at0 x.2.2 0)=m)/\(∀j,j<x.2.2.length->okAt t x.2.2 j=true)/\Zfb t x.1=true)
   (μ:=λx=>8-x.2.2.length) (Post:=λo:List Int⊕List Int=>∃r,(o=.inl r∨o=.inr r)/\ZbN t r=true) ?_ N (m,[m],[]) ⟨by simp,by simp,by simp,λh=>absurd rfl h,λj hj=>by simp at hj,Zhq.2 ⟨m2,m3⟩⟩ (by simp;omega)
  rintro⟨a,seen,out⟩ ⟨i1,i2,i3,i4,i5,i6⟩;simp only at i1 i2 i3 i4 i5 i6;have hval:out≠[]->ZbN t out=true:=λh=>by
   have:0<out.length:=List.length_pos_iff.2 h;simp only[ZbN,Ze,Zao,Zbq];exact⟨this,i1,i5⟩
  have hcond:(if decide (((List.length out:Nat):Int)<8)=true then if(((List.length out:Nat):Int)==0)=true then some true else(idx t.Station a).bind λe517=>some (!e517)else some false)=some (decide (out.length<8)&&(decide (out.length=0)||!stB t a)):=by
   rw[Zgk g.st i6];by_cases h8:out.length<8
   ·rw[Zar (by simp;omega),Zan h8];by_cases h0:out.length=0
    ·rw[Zar (by simp[h0]),Zan h0];rfl
    rw[Zaq (by simp;intro e;rw[e]at h0;exact h0 rfl),decide_eq_false h0];rfl
   rw[Zaq (by simp;omega),decide_eq_false h8];rfl
  have hseen:seen.length=out.length+1:=by rw[i2];simp
  have hbody:Zfj N t k a seen out=(some (decide (out.length<8)&&(decide (out.length=0)||!stB t a))).bind λj=>if j=true then(Zhi N t a).bind λr521=>(ZaO (λx:Int×(List Int)=>Zb9 N t seen r521 x.1 x.2) N (0,[])).bind λo1547=>
    if(((List.length o1547:Nat):Int)==0)=true then some (.inr (.inr out))else(remI (w64 (w64 k+w64 (3*((List.length out:Nat):Int)))) ((List.length o1547:Nat):Int)).bind λm1552=>(idx o1547 m1552).bind λe1553=>(appI 8 out [e1553]).bind λl1558=>(Zep N t e1553).bind λr1559=>(appI 8 seen [r1559]).bind λl1562=>some (.inl (r1559,l1562,l1558))
    else some (.inr (.inl out)):=by
   unfold Zfj;rw[hcond]
  show(∃y,Zfj N t k a seen out=some (.inl y)/\_/\_)∨_;rw[hbody,Zag];cases hj:(decide (out.length<8)&&(decide (out.length=0)||!stB t a))with
  |false=>
   right;refine⟨_,rfl,out,.inl rfl,hval λe=>?_⟩;subst e;simp at hj
  |true=>
   simp only[Ze,Zao,Zj,Zh]at hj;have hpq:∀p,p∈PF (λp=>frm t p==a) (2*t.Links.length)↔Zcy t p=true/\frm t p=a:=λp=>by
    rw[ZL7,beq_iff_eq];simp only[Zcy,Ze,Zao];constructor
    ·rintro⟨h1,h2,h3⟩;exact⟨⟨h1,by omega⟩,h3⟩
    rintro⟨⟨h1,h2⟩,h3⟩;exact⟨h1,by omega,h3⟩
   have hql:=Zy6 (λp=>frm t p==a) (2*t.Links.length);rw[Zar rfl,Zqz g a hN,Zag,ZwQ g (by omega) (by omega) (λp hp=>((hpq p).1 hp).1) hN,Zag];have hmem:∀p,p∈(PF (λp=>frm t p==a) (2*t.Links.length)).filter (λp=>!seen.contains (too t p))↔Zcy t p=true/\frm t p=a/\seen.contains (too t p)=false:=λp=>by
    rw[List.mem_filter,hpq,Zh,and_assoc]
   have hll:((PF (λp=>frm t p==a) (2*t.Links.length)).filter (λp=>!seen.contains (too t p))).length<=100:=Nat.le_trans (List.length_filter_le _ _) (by omega);generalize (PF (λp=>frm t p==a) (2*t.Links.length)).filter (λp=>!seen.contains (too t p))=next at hmem hll
   by_cases hz:next.length=0
   ·right;rw[Zar (by simp[hz])];refine⟨_,rfl,out,.inr rfl,hval λe=>?_⟩;subst e;have ham:a=m:=by rw[i3,i2];rfl
    obtain⟨q,hq1,hq2⟩:=hdeg m m2 m3;have hlink:=ZcW (g.links q hq1).1;have hx:∃p,Zcy t p=true/\frm t p=m/\too t p≠m:=by
     rcases hq2 with h|h
     ·refine⟨2*(q:Int),by simp only[Zcy,Ze,Zao];omega,?_,?_⟩
      ·unfold frm plk;rw[show Int.tmod (2*(q:Int)) 2=0 by rw[Zq (by omega)];omega,show(Int.tdiv (2*(q:Int)) 2).toNat=q by rw[Zp (by omega)];omega];simpa[lk]using h
      unfold too plk;rw[show Int.tmod (2*(q:Int)) 2=0 by rw[Zq (by omega)];omega,show(Int.tdiv (2*(q:Int)) 2).toNat=q by rw[Zp (by omega)];omega];have:(lk t q).B≠m:=λe=>hlink.2.2 (by rw[h,e])
      simpa[lk]using this
     refine⟨2*(q:Int)+1,by simp only[Zcy,Ze,Zao];omega,?_,?_⟩
     ·unfold frm plk;rw[show Int.tmod (2*(q:Int)+1) 2=1 by rw[Zq (by omega)];omega,show(Int.tdiv (2*(q:Int)+1) 2).toNat=q by rw[Zp (by omega)];omega];simpa[lk]using h
     unfold too plk;rw[show Int.tmod (2*(q:Int)+1) 2=1 by rw[Zq (by omega)];omega,show(Int.tdiv (2*(q:Int)+1) 2).toNat=q by rw[Zp (by omega)];omega];have:(lk t q).A≠m:=λe=>hlink.2.2 (by rw[h,e])
     simpa[lk]using this
    obtain⟨p,p1,p2,p3⟩:=hx;have:p∈next:=(hmem p).2 ⟨p1,by rw[ham];exact p2,by rw[i2];simp[p3]⟩
    rw[List.eq_nil_of_length_eq_zero hz]at this;cases this
   left;rw[Zaq (by simp;intro e;rw[e]at hz;exact hz rfl)];have hv:0<=w64 (w64 k+w64 (3*((List.length out:Nat):Int))):=by
    rw[ZaG (x:=k) (by omega) (by omega),ZaG (x:=3*((List.length out:Nat):Int)) (by omega) (by omega),ZaG (by omega) (by omega)];omega
   obtain⟨q,q1,q2,q3⟩:=Zf5 (b:=((List.length next:Nat):Int)) hv (by omega);rw[q1,Zag,Zq6 q2 (by omega),Zag];have hin:next[q.toNat]'(by omega)∈next:=List.getElem_mem _
   generalize next[q.toNat]'(by omega)=p at hin
   obtain⟨p1,p2,p3⟩:=(hmem p).1 hin;rw[ZhV (by simp;omega) (by omega),Zag,ZeZ hL p1,Zag,ZhV (by simp;omega) (by omega),Zag];have hne:=Zhv g p1;have hlen1:(out++[p]).length=out.length+1:=by simp
   refine⟨_,rfl,⟨?_,?_,?_,?_,?_,hne.2.1⟩,?_⟩
   ·simp only;omega
   ·simp only;rw[i2];simp
   ·simp only;rw[hlen1,ZC,ZE (by omega)];simp[hseen]
   ·simp only;intro _;rw[Znk];by_cases h0:0<out.length
    ·rw[Zar h0];exact i4 (List.length_pos_iff.1 h0)
    have:out=[]:=List.eq_nil_of_length_eq_zero (by omega);subst this;rw[Zaq (by simp),Zar (by simp),p2,i3,i2];rfl
   ·simp only;refine ZwY i4 (λh=>?_) i5 p1 ?_ (λh=>?_) ?_
    ·subst h;rw[p2,i3,i2];rfl
    ·rw[p2,i3,i2]
    ·rw[p2];rcases hj.2 with h'|h'
     ·exact absurd (List.eq_nil_of_length_eq_zero h') h
     exact h'
    rw[←i2];exact p3
   simp only;omega
 obtain⟨o,o1,r,o2,o3⟩:=key;rw[o1,Zag];rcases o2 with rfl|rfl
 ·exact⟨r,rfl,o3⟩
 exact⟨r,rfl,o3⟩
end
end Go.Sh

namespace Go.Sh
open Go Go.Eng
theorem Zru (x:Int):Byte (IntKind.u8.wrap x):=by
 unfold Byte IntKind.wrap;simp only[IntKind.bits,IntKind.signed];have h1:=Int.emod_nonneg x (show(2 ^ 8:Int)≠0 by decide);have h2:=Int.emod_lt_of_pos x (show(0:Int)<2 ^ 8 by decide);simp only[Bool.false_and,Zg,Zap];constructor<;>omega
section
variable {N:Nat} {t:Zav} {s:Zat}
theorem Zva {r:List Int}(h1:1<=r.length)(h:r.length<=100):idx r (w64 (((List.length r:Nat):Int)-1))=some (at0 r (r.length-1)):=by
 rw[ZaG (by omega) (by omega),show((List.length r:Nat):Int)-1=((r.length-1:Nat):Int)by omega,ZbM (by omega),ZlQ (by omega)]
theorem Zso {r:List Int}(h1:1<=r.length):idx r 0=some (at0 r 0):=by
 rw[show(0:Int)=((0:Nat):Int)from rfl,ZbM (by omega),ZlQ (by omega)]
theorem ZAf {r:List Int}(h1:1<=r.length):nd t r r.length=too t (at0 r (r.length-1)):=by
 have:=Zh7 (t:=t) (r:=r) (k:=r.length-1) (by omega)
 rwa [show r.length-1+1=r.length by omega]at this
theorem Zqs (g:Good t)(s:Zat)(r:List Int)(hN:200<=N):
  ((Zdw N t r).bind λr530=>(if(!r530)then(some true)else((idx r 0).bind λe533=>((Zdf N t e533).bind λr534=>(if(r534 !=s.Talker)then(some true)else((idx r (w64 (((List.length r:Nat):Int)-1))).bind λe537=>((Zep N t e537).bind λr538=>(some (r538 !=s.Listener)))))))))=some (!ZgO t s r):=by
 have hL:t.Links.length<=1000:=by have:=g.l24;omega
 rw[Zj9 g r hN,Zag];unfold ZgO;cases hv:ZbN t r with
 |false=>rfl
 |true=>
  obtain⟨h1,h8,hp⟩:=Zca hv;simp only[Zi,Zg,Zap];rw[Zso h1,Zag,Zeq hL (hp 0 (by omega)),Zag,Zva h1 (by omega),Zag,ZeZ hL (hp _ (by omega)),Zag,ZAd,ZAf h1];by_cases e:frm t (at0 r 0)=s.Talker
  ·have:(frm t (at0 r 0)!=s.Talker)=false:=by simp[e]
   rw[this];simp only[Zg,Zap,e,beq_self_eq_true,Zk];rfl
  have:(frm t (at0 r 0)!=s.Talker)=true:=by simp[e]
  rw[this];simp only[Zas,beq_eq_false_iff_ne.2 e,Bool.false_and,Bool.and_false,Bool.not_false]
theorem Zo3 (g:Good t){s:Zat}(hl:s.Routes.length<=2)(hN:200<=N):ZaO (λx:Int=>ZeG N t s x) N 0=some (if s.Routes.all (ZgO t s)then .inl ()else .inr false):=by
 have:=Zbh (n:=s.Routes.length) (p:=λk=>ZgO t s (s.Routes.getD k [])) (body:=λx:Int=>ZeG N t s x) (bad:=.inr false) (fin:=.inl ()) (λk hk=>by
  unfold ZeG;rw[Zar (by simp;omega),ZbM hk,Zag,ZbC hk,Zqs g s _ hN,Zag,ZaL (by omega)];cases ZgO t s s.Routes[k]<;>rfl) (by unfold ZeG;rw[Zaq (by simp)]) (N:=N) (by omega)
 rw[this,Zmy s.Routes [] (ZgO t s)]
theorem Zup (g:Good t){s:Zat}(hl:s.Routes.length<=2)(hN:200<=N):ZaO (λx:Int=>Zli N t s x) N 0=some (if s.Routes.all (ZgO t s)then .inl ()else .inr false):=Zo3 g hl hN
theorem ZvN (g:Good t){s:Zat}(hl:lenB s=true)(hr:s.Routes.all (ZgO t s)=true)(hN:200<=N):
  (if(((List.length s.Routes:Nat):Int)==1)then(some true)else((idx s.Routes 0).bind λe545=>((idx s.Routes 1).bind λe546=>((Zea N t e545 e546).bind λr547=>(some r547)))))=some (Zuv t s):=by
 simp only[lenB,Ze,Zao]at hl;unfold Zuv;by_cases h2:s.Routes.length<2
 ·rw[Zar (by simp;omega)];simp[h2]
 rw[Zaq (by simp;omega),show(0:Int)=((0:Nat):Int)from rfl,show(1:Int)=((1:Nat):Int)from rfl,ZbM (by omega),ZbM (by omega)];simp only[Zag];have e0:=Zij hr (k:=0) (by omega);have e1:=Zij hr (k:=1) (by omega);rw[ZbC (by omega)]at e0 e1;rw[Zlj g e0.1 e1.1 hN,Zag,ZbC (by omega),ZbC (by omega)];simp[h2]
theorem Zlh (g:Good t)(s:Zat)(hN:200<=N):Zhg N t s=some (Zbv t s):=by
 have head:((Zc7 N s.Id 1 4095).bind λr1=>(if(!r1)then(some true)else((Zdv N t s.Talker).bind λr4=>(if(!r4)then(some true)else((Zdv N t s.Listener).bind λr7=>(if(!r7)then(some true)else(if(s.Talker==s.Listener)then(some true)else((Zc7 N s.Size 84 1542).bind λr12=>(if(!r12)then(some true)else((Zc7 N s.Deadline 1 1099511627776).bind λr15=>(some (!r15))))))))))))=some (!ZuG t s):=by
  simp only[Zi2,Zn9 g,Zag];unfold ZuG;cases inB s.Id 1 4095<;>cases Zp9 t s.Talker<;>cases Zp9 t s.Listener<;>cases h4:(s.Talker==s.Listener)<;>cases inB s.Size 84 1542<;>cases inB s.Deadline 1 1099511627776<;>simp[bne,h4]
 have rest:∀L:Option (Unit⊕Bool),(s.Routes.length<=2->L=some (if s.Routes.all (ZgO t s)then .inl ()else .inr false))->(if((decide (((List.length s.Routes:Nat):Int)<1))||(decide (((List.length s.Routes:Nat):Int)>2)))then(some false)else(L.bind λo541=>match o541 with
   |(.inl p542)=>(((if(((List.length s.Routes:Nat):Int)==1)then(some true)else((idx s.Routes 0).bind λe545=>((idx s.Routes 1).bind λe546=>((Zea N t e545 e546).bind λr547=>(some r547)))))).bind λ(j548:Bool)=>(some j548))
   |(.inr p549)=>(some p549)))=some (lenB s&&(s.Routes.all (ZgO t s)&&Zuv t s)):=by
  intro L hL;cases hl:lenB s with
  |false=>
   rw[Zar]
   ·rfl
   rw[Bool.eq_false_iff]at hl;simp only[lenB,ne_eq,Ze,Zao]at hl;simp only[Zj,Zao];omega
  |true=>
   have hl':=hl;simp only[lenB,Ze,Zao]at hl';rw[Zaq (by simp only[Zj,Zao];omega),hL hl'.2];cases hr:s.Routes.all (ZgO t s)with
   |false=>rfl
   |true=>
    simp only[Zas,Zag];rw[ZvN g hl hr hN];rfl
 unfold Zhg;rw[head,Zag];unfold Zbv;cases hh:ZuG t s with
 |false=>rfl
 |true=>
  simp only[Zi,Zg,Zap,Zk];unfold Zrj;simp only[Zi2,Zag];by_cases c7:(s.Class==7)=true
  ·rw[Zar c7,Zar c7];have r1:=rest _ (λh=>Zo3 g h hN);cases inB s.Period 1 240 with
   |false=>rfl
   |true=>cases (s.Bucket.Burst==0)with
    |false=>rfl
    |true=>cases (s.Bucket.Rate==0)with
     |false=>rfl
     |true=>exact r1
  rw[Zaq c7,Zaq c7];by_cases c6:(s.Class==6)=true
  ·rw[Zar c6,Zar c6];have r2:=rest _ (λh=>Zup g h hN);unfold bne;cases (s.Period==0)with
   |false=>rfl
   |true=>cases inB s.Bucket.Burst s.Size 1048576 with
    |false=>rfl
    |true=>cases inB s.Bucket.Rate 1 2097152 with
     |false=>rfl
     |true=>exact r2
  rw[Zaq c6,Zaq c6];rfl
structure SDOK (d:Zcl):Prop where
 node:Byte d.Node
 way:Byte d.Way
 size:Byte d.Size
 period:Byte d.Period
 burst:Byte d.Burst
 rate:0<=d.Rate/\d.Rate<=65535
def ZxI (t:Zav):Prop:=∀x:Int,0<=x->x<t.Nodes->∃k,k<t.Links.length/\((lk t k).A=x∨(lk t k).B=x)
theorem Zj6 (g:Good t)(hdeg:ZxI t){n k:Int}(hn:Byte n)(hk:Byte k)(hN:200<=N):∃r,Zim N t n k=some r/\(r=[]∨ZbN t r=true):=by
 have hL:t.Links.length<=1000:=by have:=g.l24;omega
 unfold Zim;obtain⟨o,o1,o2⟩:=Zb6 (body:=λx:Int=>Zi3 N t n k x) (I:=λx:Int=>∃j:Nat,x=j/\j<=16) (μ:=λx=>16-x.toNat) (Post:=λo:Unit⊕List Int=>o=.inl ()∨∃r,o=.inr r/\ZbN t r=true) (by
  rintro x ⟨j,rfl,hj⟩;simp only[Zi3];by_cases h16:j<16
  ·rw[Zar (by simp;omega)];obtain⟨r,r1,r2⟩:=ZvI (N:=N) g hdeg hn (Zru (k+IntKind.u8.wrap (j:Int))) hN;obtain⟨h1,h8,hp⟩:=Zca r2;have p0:=hp 0 (by omega);have pl:=hp (r.length-1) (by omega);rw[r1,Zag,Zar (by simp;omega),Zj9 g r hN,r2,Zag,Zar rfl,Zso h1,Zag,Zeq hL p0,Zag,Zgk g.st (Zhv g p0).1,Zag,Zva h1 (by omega),Zag,ZeZ hL pl,Zag,
    Zgk g.st (Zhv g pl).2.1,Zag]
   have hne:neL r=some ():=by
    cases r with
    |nil=>simp at h1
    |cons a l=>rfl
   cases hc:(if stB t (frm t (at0 r 0))=true then some (stB t (too t (at0 r (r.length-1))))else some false)with
   |none=>split at hc<;>cases hc
   |some b=>
    rw[Zag];cases b with
    |true=>right;exact⟨_,by rw[Zar rfl,hne];rfl,.inr ⟨r,rfl,r2⟩⟩
    |false=>left;exact⟨_,by rw[Zaq (by decide),ZaL (by omega)],⟨j+1,rfl,by omega⟩,by simp;omega⟩
  right;exact⟨_,by rw[Zaq (by simp;omega)],.inl rfl⟩) N 0 ⟨0,rfl,by omega⟩ (by simp;omega)
 rw[o1,Zag];rcases o2 with rfl|⟨r,rfl,hr⟩
 ·exact⟨[],rfl,.inl rfl⟩
 exact⟨r,rfl,.inr hr⟩
theorem Zi6 (g:Good t)(hdeg:ZxI t){d:Zcl}(hd:SDOK d)(id:Int)(hN:200<=N):∃x b,ZdV N d t id=some (x,b)/\(b=true->Zbv t x=true/\x.Id=id):=by
 have hL:t.Links.length<=1000:=by have:=g.l24;omega
 have hn2:=g.n2;have hn12:=g.n12;unfold ZdV;rw[ZaG (x:=d.Node) (by have:=hd.node.1;omega) (by have:=hd.node.2;omega)];obtain⟨m,m1,m2,m3⟩:=Zf5 (v:=d.Node) (b:=t.Nodes) hd.node.1 (by omega);rw[m1,Zag];obtain⟨o,o1,o2⟩:=Zb6 (body:=λx:Int×Int=>Zd8 N t x.1 x.2) (I:=λx:Int×Int=>(0<=x.1/\x.1<t.Nodes)/\0<=x.2/\x.2<=t.Nodes) (μ:=λx=>(t.Nodes-x.2).toNat) (Post:=λo:Int=>0<=o/\o<t.Nodes) (by
  rintro⟨a,i⟩ ⟨⟨a0,a1⟩,i0,i1⟩;simp only at a0 a1 i0 i1;simp only[Zd8];by_cases hi:i<t.Nodes
  ·rw[Zar (by simp;omega),Zgk g.st (Zhq.2 ⟨a0,a1⟩),Zag,Zag];cases stB t a with
   |true=>right;exact⟨a,by rfl,a0,a1⟩
   |false=>
    left;obtain⟨q,q1,q2,q3⟩:=Zf5 (v:=a+1) (b:=t.Nodes) (by omega) (by omega);rw[Zar (by simp),ZaG (by omega) (by omega),q1,Zag,ZaG (by omega) (by omega)];exact⟨_,rfl,⟨⟨q2,q3⟩,by simp only;omega,by simp only;omega⟩,by simp only;omega⟩
  right;rw[Zaq (by simp;omega)];exact⟨a,rfl,a0,a1⟩) N (m,0) ⟨⟨m2,m3⟩,by simp,by simp only;omega⟩ (by simp only;omega)
 rw[o1,Zag];obtain⟨r,r1,r2⟩:=Zj6 (N:=N) g hdeg (Zru o) hd.way hN;rw[r1,Zag];rcases r2 with rfl|r2
 ·exact⟨_,_,rfl,λh=>by cases h⟩
 obtain⟨h1,h8,hp⟩:=Zca r2;have hne:¬List.isEmpty r=true:=by cases r with
  |nil=>simp at h1
  |cons a l=>simp
 rw[Zaq hne,Zso h1,Zag,Zeq hL (hp 0 (by omega)),Zag,Zva h1 (by omega),Zag,ZeZ hL (hp _ (by omega)),Zag];have hj:∃j:Int×Int×Int×Int,(if d.Reserved=true then some ((6:Int),(0:Int),w64 (w64 (84+w64 d.Size)+w64 (4*w64 d.Burst)),w64 (1+w64 d.Rate))else(idx [4,6,8,12,16,24,48,10,5,240] (Int.tmod d.Period 10)).bind λe1021=>some (7,e1021,0,0))=some j:=by
  by_cases hr:d.Reserved=true
  ·rw[Zar hr];exact⟨_,rfl⟩
  rw[Zaq hr];have hm:Int.tmod d.Period 10=d.Period%10:=Zq hd.period.1;rw[hm,Zq6 (Int.emod_nonneg _ (by decide)) (by have:=Int.emod_lt_of_pos d.Period (show(0:Int)<10 by decide);simp only[ZT,ZV];omega)];exact⟨_,rfl⟩
 obtain⟨j,j1⟩:=hj;rw[j1,Zag];obtain⟨o',p1,p2⟩:=Zb6 (body:=λx:Int×(List (List Int))=>Zd7 N d t o r (too t (at0 r (r.length-1))) x.1 x.2) (I:=λx:Int×List (List Int)=>∃k:Nat,x.1=k/\k<=24/\x.2.length<=k+1) (μ:=λx=>24-x.1.toNat) (Post:=λ_:List (List Int)=>True) (by
  rintro⟨a,l⟩ ⟨k,rfl,hk,hl⟩;simp only at hl;simp only[Zd7];cases hc:(if decide ((k:Int)<24)=true then if d.Two=true then some (((List.length l:Nat):Int)==1)else some false else some false)with
  |none=>split at hc;split at hc;all_goals cases hc
  |some b=>
   rw[Zag];cases b with
   |false=>right;exact⟨l,rfl,trivial⟩
   |true=>
    left;have hk24:k<24:=by
     by_cases h:k<24
     ·exact h
     rw[Zaq (by simp;omega)]at hc;cases hc
    rw[Zar rfl];obtain⟨q,q1,q2⟩:=Zj6 (N:=N) g hdeg (Zru o) (Zru (d.Way+IntKind.u8.wrap (k:Int))) hN;rw[q1,Zag];have fin:∀(X:Option (List (List Int))) (l':List (List Int)),X=some l'->l'.length<=k+1+1->∃y,(X.bind λj2037=>some (Sum.inl (β:=List (List Int)) (w64 ((k:Int)+1),j2037)))=some (Sum.inl (β:=List (List Int)) y)/\(∃k_1:Nat,y.1=(k_1:Int)/\k_1<=24/\y.2.length<=k_1+1)/\24-y.1.toNat<24-(k:Int).toNat:=by
     intro X l' hX hl';subst hX;exact⟨_,by rw[Zag,ZaL (by omega)],⟨k+1,rfl,by omega,hl'⟩,by simp only[Zr];omega⟩
    rcases q2 with rfl|q2
    ·exact fin _ l rfl (by omega)
    obtain⟨w1,w8,wp⟩:=Zca q2;have wne:¬List.isEmpty q=true:=by cases q with
     |nil=>simp at w1
     |cons a l=>simp
    rw[Zaq wne,Zva w1 (by omega),Zag,ZeZ hL (wp _ (by omega)),Zag,Zlj g r2 q2 hN,Zag];cases hc2:(if(too t (at0 q (q.length-1))==too t (at0 r (r.length-1)))=true then some (Zp1 t r q)else some false)with
    |none=>split at hc2<;>cases hc2
    |some b2=>
     rw[Zag];cases b2 with
     |false=>exact fin _ l rfl (by omega)
     |true=>exact fin _ (l++[q]) (by rw[Zar rfl,ZhV (by simp;omega) (by omega)];rfl) (by simp;omega)) N (0,[r]) ⟨0,rfl,by omega,by simp⟩ (by simp;omega)
 rw[p1,Zag,Zlh g _ hN,Zag];exact⟨_,_,rfl,λh=>⟨h,rfl⟩⟩
structure SL (t:Zav) (l:List Zat):Prop where
 len:l.length<=6
 ok:∀k,k<l.length->Zbv t (l.getD k dS)=true/\idAt l k=((k+1:Nat):Int)
theorem SL.snoc {l:List Zat}(h:SL t l)(h6:l.length<6){x:Zat}(hx:Zbv t x=true)(hi:x.Id=((l.length+1:Nat):Int)):SL t (l++[x]):=by
 refine⟨by simp;omega,λk hk=>?_⟩;unfold idAt;by_cases e:k<l.length
 ·have:=h.ok k e;unfold idAt at this;rw[ZbC hk,List.getElem_append_left e,←ZbC e dS];exact this
 have:k=l.length:=by simp at hk;omega
 subst this;rw[ZbC hk];simp only[List.getElem_append_right (Nat.le_refl _),Nat.sub_self,List.getElem_cons_zero];exact⟨hx,hi⟩
theorem Zl7 (g:Good t)(hdeg:ZxI t){L:List Zcl}(hL:∀d∈L,SDOK d)(hlen:L.length<=maxLen)(hN:200+L.length<=N):∃l,ZgG N t L=some l/\SL t l:=by
 unfold ZgG;obtain⟨o,o1,o2⟩:=Zb6 (body:=λx:Int×(List Zat)=>Zgj N t L x.1 x.2) (I:=λx:Int×List Zat=>∃k:Nat,x.1=k/\k<=L.length/\SL t x.2) (μ:=λx=>L.length-x.1.toNat) (Post:=SL t) (by
  rintro⟨a,l⟩ ⟨k,rfl,hk,hl⟩;simp only at hl;simp only[Zgj];by_cases hkl:k<L.length
  ·rw[Zar (by simp;omega),Zag];by_cases h6:l.length<6
   ·rw[Zar (by simp;omega),ZbM hkl,Zag];obtain⟨x,b,x1,x2⟩:=Zi6 (N:=N) g hdeg (hL _ (List.getElem_mem hkl)) (w64 (((List.length l:Nat):Int)+1)) (by omega);rw[x1,Zag];have hw:w64 ((k:Int)+1)=((k+1:Nat):Int):=by
     rw[ZaG (by omega) (by have:L.length<=9223372036854775807:=hlen;omega)];omega
    left;cases b with
    |false=>exact⟨_,by rw[Zaq (by simp),Zag,hw],⟨k+1,rfl,by omega,hl⟩,by simp only[Zr];omega⟩
    |true=>
     obtain⟨y1,y2⟩:=x2 rfl;have hs:=hl.snoc h6 y1 (by rw[y2,ZaL (by omega)]);exact⟨_,by rw[Zar rfl,ZhV (by simp;omega) (by omega),Zag,Zag,hw],⟨k+1,rfl,by omega,hs⟩,by simp only[Zr];omega⟩
   right;exact⟨l,by rw[Zaq (by simp;omega)],hl⟩
  right;exact⟨l,by rw[Zaq (by simp;omega)];rfl,hl⟩) N (0,[]) ⟨0,rfl,by omega,⟨by simp,λk hk=>by simp at hk⟩⟩ (by simp;omega)
 exact⟨o,by rw[o1];rfl,o2⟩
theorem Zl8 {a b c:Int}(ha:Byte a)(hb:Byte b)(hc:Byte c):∃u,Zi4 N a b c=some u/\Zd6 u=true:=by
 obtain⟨a0,a1⟩:=ha;obtain⟨b0,b1⟩:=hb;obtain⟨c0,c1⟩:=hc;refine⟨_,rfl,?_⟩;have hm:Int.tmod b 40=b%40:=Zq b0;have e1:=Int.emod_nonneg b (show(40:Int)≠0 by decide);have e2:=Int.emod_lt_of_pos b (show(0:Int)<40 by decide);rw[hm,ZaG (x:=a) (by omega) (by omega),ZaG (x:=20*a) (by omega) (by omega),ZaG (x:=100+20*a) (by omega) (by omega),ZaG (x:=b%40) (by omega) (by omega),ZaG (x:=c) (by omega) (by omega)];simp only[Zd6,inB,Ze,Zao];refine⟨⟨?_,?_⟩,⟨?_,?_⟩,⟨?_,?_⟩,?_,?_⟩<;>omega
end
end Go.Sh

namespace Go.Sh
open Go Go.Eng
section
variable {N:Nat} {t:Zav} {u:Zay} {s:Zat}
theorem ZhP {α:Type}{n k:Nat}(f:Nat->α)(h:k<n):idx ((List.range n).map f) (k:Int)=some (f k):=by
 rw[ZbM (by simpa using h)];simp
theorem Zve (g:Good t)(hu:ZfE u)(hs:Zkx s){r:List Int}(hp:∀k,k<r.length->Zcy t (at0 r k)=true){k:Nat}(hk:k+1<r.length):
  (ZaY t u s r (k+1)).Early=Zbt t u (ZaY t u s r k)-2*u.Slack/\(ZaY t u s r (k+1)).Late=Zbt t u (ZaY t u s r k)+2*u.Slack∧
  (ZaY t u s r (k+1)).Late<=(ZaY t u s r (k+1)).Open/\(ZaY t u s r (k+1)).Open<(ZaY t u s r (k+1)).Late+u.Grid/\(ZaY t u s r (k+1)).Open%u.Grid=0/\(ZaY t u s r k).Open<(ZaY t u s r (k+1)).Open:=by
 have hb:=ZgR g hu hs hp k (by omega);obtain⟨o1,o2,o3⟩:=hb.told g hu;have h0:=hb.op1;have c:=Zst hu (x:=Zbt t u (ZaY t u s r k)+2*u.Slack) (by have:=hu.s1;omega);have:=hu.s1;refine⟨rfl,rfl,c.1,c.2.1,c.2.2,?_⟩;show _<Znj u (Zbt t u (ZaY t u s r k)+2*u.Slack);omega
theorem ZgY (g:Good t)(hu:ZfE u)(hs:Zkx s){r:List Int}(hp:∀k,k<r.length->Zcy t (at0 r k)=true)(h8:r.length<=8){k:Nat}(hk:k<r.length):
  0<=(ZaY t u s r k).Open/\(ZaY t u s r k).Open<=20000000/\0<=Zbt t u (ZaY t u s r k)/\Zbt t u (ZaY t u s r k)<=20000000:=by
 have hb:=ZgR g hu hs hp k hk;obtain⟨o1,o2,o3⟩:=hb.told g hu;have h0:=hb.op1;have h1:=hb.op2;omega
theorem SDOK.of {d:Zcl}(h:Zid d):SDOK d:=by
 obtain⟨_,_,h1,h2,h3,h4,h5,h6⟩:=h;refine⟨Ze1 h1,Ze1 h2,Ze1 h3,Ze1 h4,Ze1 h5,?_⟩;simpa[InK,Lit.wf,IntKind.min,IntKind.max,IntKind.signed,IntKind.bits]using h6
end
end Go.Sh
namespace Go.Sh
open Go Go.Eng
section
variable {N:Nat} {t:Zav} {u:Zay} {s:Zat}
theorem Zw0 (l:List Zat)(k:Nat):allB k (λj=>!(idAt l j==idAt l k))=Zsc l k:=by
 unfold Zsc allB;rw[List.not_any_eq_all_not]
theorem Zm0 (l:List Zat)(hN:200<=N):ZfP N t l=some (allR t l):=by
 unfold ZfP allR;rw[Zll (by omega),Zag];cases hT:Zez t with
 |false=>rfl
 |true=>
  have g:=Zbo.1 hT;simp only[Zi,Zas,Zg,Zap];by_cases h12:l.length<=12
  ·rw[Zaq (by simp;omega),Zar h12];have:=Zbh (n:=l.length) (p:=λk=>Zbv t (l.getD k dS)) (body:=λx:Int=>Zeo N t l x) (bad:=.inr 321) (fin:=.inl ()) (λk hk=>by
    unfold Zeo;rw[Zar (by simp;omega),ZbM hk,Zag,ZbC hk,Zlh g _ hN,Zag,ZaL (by omega)];cases Zbv t l[k]<;>rfl) (by unfold Zeo;rw[Zaq (by simp)]) (N:=N) (by omega)
   rw[this,Zmy l dS (Zbv t)];cases l.all (Zbv t)with
   |false=>rfl
   |true=>
    simp only[Zas,Zag];have:=Zbh (n:=l.length) (p:=Zsc l) (body:=λx:Int=>ZcJ N l x) (bad:=.inr 322) (fin:=.inl ()) (λk hk=>by
     show ZcJ N l (k:Int)=_;unfold ZcJ;rw[Zar (by simp;omega)];have hin:=Zbh (n:=k) (p:=λj=>!(idAt l j==idAt l k)) (body:=λx:Int=>ZcI N l (k:Int) x) (bad:=.inr 322) (fin:=.inl ()) (λj hj=>by
      show ZcI N l (k:Int) (j:Int)=_;unfold ZcI;rw[Zar (by simp;omega),ZbM (show j<l.length by omega),Zag,ZbM hk,Zag,ZaL (by omega)];have e1:idAt l j=l[j].Id:=by unfold idAt;rw[ZbC (by omega)]
      have e2:idAt l k=l[k].Id:=by unfold idAt;rw[ZbC hk]
      rw[e1,e2];cases l[j].Id==l[k].Id<;>rfl) (by show ZcI N l (k:Int) (k:Int)=_;unfold ZcI;rw[Zaq (by simp)]) (N:=N) (by omega)
     rw[hin,Zw0,ZaL (by omega)];cases Zsc l k<;>rfl) (by show ZcJ N l (l.length:Int)=_;unfold ZcJ;rw[Zaq (by simp)]) (N:=N) (by omega)
    rw[this];cases allB l.length (Zsc l)<;>rfl
  rw[Zar (by simp;omega),Zaq h12]
end
end Go.Sh
namespace Go.Sh
open Go Go.Eng
section
variable {N:Nat} {t:Zav} {u:Zay} {s:Zat}
theorem Zzc {G X:Int}(hG:1<=G)(hG2:G<=10000)(hX:0<=X)(hX2:X<=25000000)(hN:30000000<=N){body:Int->Option (Int⊕Int)}(hb:∀x,body x=if decide (x<X)=true then some (.inl (w64 (x+G)))else some (.inr x)):
  ZaO body N 0=some ((X+G-1)/G*G):=by
 obtain⟨o,o1,o2⟩:=Zb6 (body:=body) (I:=λx:Int=>0<=x/\x<X+G/\x%G=0) (μ:=λx=>(X+G-x).toNat) (Post:=λr:Int=>X<=r/\r<X+G/\r%G=0) (by
  rintro x ⟨x0,x1,x2⟩;rw[hb];by_cases h:x<X
  ·left;refine⟨_,by rw[Zar (by simpa using h),ZaG (by omega) (by omega)],⟨by omega,by omega,?_⟩,by omega⟩;rw[Int.add_emod_right];exact x2
  right;exact⟨x,by rw[Zaq (by simpa using h)],by omega,x1,x2⟩) N 0 ⟨by omega,by omega,by simp⟩ (by omega)
 rw[o1];obtain⟨p1,p2,p3⟩:=o2
 congr 1
 have e1:=Int.mul_ediv_add_emod (X+G-1) G;have e2:=Int.emod_nonneg (X+G-1) (show G≠0 by omega);have e3:=Int.emod_lt_of_pos (X+G-1) (show 0<G by omega);have e4:=Int.mul_ediv_add_emod o G;rw[Zo]at e1 e4;have hq:o/G=(X+G-1)/G:=by
  generalize (X+G-1)/G=q at*;generalize o/G=p at*;rcases Int.lt_trichotomy p q with h|h|h
  ·have:(p+1)*G<=q*G:=Int.mul_le_mul_of_nonneg_right (by omega) (by omega);rw[Int.add_mul]at this;omega
  ·exact h
  have:(q+1)*G<=p*G:=Int.mul_le_mul_of_nonneg_right (by omega) (by omega);rw[Int.add_mul]at this;omega
 rw[←hq];omega
theorem Zny (g:Good t)(hu:ZfE u)(hs:Zkx s){r:List Int}(hv:ZbN t r=true)(hN:30000000<=N):Zin N t u s r=some ((List.range r.length).map (ZaY t u s r)):=by
 obtain⟨h1,h8,hp⟩:=Zca hv;have hL:t.Links.length<=1000:=by have:=g.l24;omega
 unfold Zin;rw[Zso h1,Zag,Zag,ZnB hL (hp 0 (by omega)),Zag];have l0:=Zpw g hs (hp 0 (by omega));rw[ZaG (x:=s.Size*(plk t (at0 r 0)).Per) (by omega) (by omega)];have hstep:∀k:Nat,1<=k->k<r.length->Ze4 N t u s r (k:Int) ((List.range k).map (ZaY t u s r))=some (.inl (((k+1:Nat):Int),(List.range (k+1)).map (ZaY t u s r))):=by
  intro k k1 hk;obtain⟨j,rfl⟩:∃j,k=j+1:=⟨k-1,by omega⟩;unfold Ze4;have hb:=ZgR g hu hs hp j (by omega);obtain⟨n1,n2,n3,n4,n5,n6⟩:=Zve g hu hs hp hk;obtain⟨b1,b2,b3,b4⟩:=ZgY g hu hs hp h8 (show j<r.length by omega);obtain⟨_,_,d1,d2⟩:=ZgW g hb.port;have lo1:=hb.long1;have lo2:=hb.long2;have s1:=hu.s1;have s2:=hu.s2;have g1:=hu.g1;have g2:=hu.g2;have p1:=hu.p1;have p2:=hu.p2;have x3:idx ((List.range (j+1)).map (ZaY t u s r)) (w64 (((j+1:Nat):Int)-1))=some (ZaY t u s r j):=by
   rw[ZaG (by omega) (by omega),show((j+1:Nat):Int)-1=(j:Int)by omega,ZhP _ (by omega)]
  rw[Zar (by simp;omega),x3,Zag,Zlp hL hb.port,Zag,ZbM hk,Zag,Zag,←ZlQ hk,ZnB hL (hp _ hk),Zag];have lk:=Zpw g hs (hp _ hk);have htold:(ZaY t u s r j).Open+(ZaY t u s r j).Long+(plk t (ZaY t u s r j).Port).Delay+u.Proc=Zbt t u (ZaY t u s r j):=rfl;have w1:w64 ((ZaY t u s r j).Open+(ZaY t u s r j).Long)=(ZaY t u s r j).Open+(ZaY t u s r j).Long:=ZaG (by omega) (by omega);have w2:w64 ((ZaY t u s r j).Open+(ZaY t u s r j).Long+(plk t (ZaY t u s r j).Port).Delay)=(ZaY t u s r j).Open+(ZaY t u s r j).Long+(plk t (ZaY t u s r j).Port).Delay:=ZaG (by omega) (by omega);have w3:w64 (Zbt t u (ZaY t u s r j))=Zbt t u (ZaY t u s r j):=ZaG (by omega) (by omega);have w4:w64 (2*u.Slack)=2*u.Slack:=ZaG (by omega) (by omega);have w5:w64 (Zbt t u (ZaY t u s r j)+2*u.Slack)=Zbt t u (ZaY t u s r j)+2*u.Slack:=ZaG (by omega) (by omega);have w6:w64 (Zbt t u (ZaY t u s r j)-2*u.Slack)=Zbt t u (ZaY t u s r j)-2*u.Slack:=ZaG (by omega) (by omega);have hup:=Zzc (N:=N) (G:=u.Grid) (X:=Zbt t u (ZaY t u s r j)+2*u.Slack) g1 g2 (by omega) (by omega) hN (body:=λx:Int=>Zj8 N u (ZaY t u s r j) (plk t (ZaY t u s r j).Port).Delay x) (λx=>by
   simp only[Zj8];rw[w1,w2,htold,w3,w4,w5])
  rw[hup,Zag,w1,w2,htold,w3,w4,w5,w6,ZaG (x:=s.Size*(plk t (at0 r (j+1))).Per) (by omega) (by omega),ZhV (by simp;omega) (by omega),Zag,ZaL (by omega)];have e:[ZaX.mk (at0 r (j+1)) (Zbt t u (ZaY t u s r j)-2*u.Slack) (Zbt t u (ZaY t u s r j)+2*u.Slack) ((Zbt t u (ZaY t u s r j)+2*u.Slack+u.Grid-1)/u.Grid*u.Grid) (s.Size*(plk t (at0 r (j+1))).Per)]=[j+1].map (ZaY t u s r):=rfl;rw[e,←ZZ,←Z7]
 have key:∀(m N' k:Nat),r.length-k=m->1<=k->k<=r.length->m<N'->ZaO (λx:Int×(List ZaX)=>Ze4 N t u s r x.1 x.2) N' ((k:Int),(List.range k).map (ZaY t u s r))=some ((List.range r.length).map (ZaY t u s r)):=by
  intro m;induction m with
  |zero=>
   intro N' k e0 e1 e2 e3;obtain rfl:k=r.length:=by omega
   cases N' with
   |zero=>omega
   |succ N'=>
    rw[Za5 (r:=(List.range r.length).map (ZaY t u s r))];show Ze4 N t u s r ((r.length:Nat):Int) _=_;unfold Ze4;rw[Zaq (by simp)]
  |succ m ih=>
   intro N' k e0 e1 e2 e3;cases N' with
   |zero=>omega
   |succ N'=>
    rw[ZbL (y:=(((k+1:Nat):Int),(List.range (k+1)).map (ZaY t u s r))) (hstep k e1 (by omega))];exact ih N' (k+1) (by omega) (by omega) (by omega) (by omega)
 have:=key (r.length-1) N 1 rfl (Nat.le_refl _) h1 (by omega);have e:(1,[ZaX.mk (at0 r 0) 0 0 0 (s.Size*(plk t (at0 r 0)).Per)])=(((1:Nat):Int),(List.range 1).map (ZaY t u s r)):=rfl;rw[e,this];rfl
end
end Go.Sh
namespace Go.Sh
open Go Go.Eng
theorem Zon {a G q:Int}(hG:0<G)(h1:q*G<=a)(h2:a<q*G+G):a/G=q:=by
 have e1:=Int.mul_ediv_add_emod a G;have e2:=Int.emod_nonneg a (show G≠0 by omega);have e3:=Int.emod_lt_of_pos a hG;rw[Zo]at e1;generalize a/G=p at*;rcases Int.lt_trichotomy p q with h|h|h
 ·have:(p+1)*G<=q*G:=Int.mul_le_mul_of_nonneg_right (by omega) (by omega);rw[Int.add_mul]at this;omega
 ·exact h
 have:(q+1)*G<=p*G:=Int.mul_le_mul_of_nonneg_right (by omega) (by omega);rw[Int.add_mul]at this;omega
theorem Znh {a G:Int}(hG:0<G):a/G*G<=a/\a<a/G*G+G:=by
 have e1:=Int.mul_ediv_add_emod a G;have e2:=Int.emod_nonneg a (show G≠0 by omega);have e3:=Int.emod_lt_of_pos a hG;rw[Zo]at e1;omega
theorem ZdG {a G B:Int}(hG:1<=G)(h1: -B<=a)(h2:a<=B)(hB:0<=B): -B<=a/G/\a/G<=B:=by
 constructor
 ·rw[Int.le_ediv_iff_mul_le (by omega)];have:B*1<=B*G:=Int.mul_le_mul_of_nonneg_left hG hB;rw[Int.neg_mul];omega
 have:a/G<B+1:=by
  rw[Int.ediv_lt_iff_lt_mul (by omega)];have:(B+1)*1<=(B+1)*G:=Int.mul_le_mul_of_nonneg_left hG (by omega);omega
 omega
theorem Zjf (N:Nat){a b:Int}(hb:1<=b)(h1: -100000000<=a)(h2:a<=100000000):Zer N a b=some (a/b):=by
 unfold Zer;have e:=Int.mul_tdiv_add_tmod a b;have l1:=Int.lt_tmod_of_pos a (show 0<b by omega);have l2:=Int.tmod_lt_of_pos a (show 0<b by omega);rw[Zo]at e;have hq: -100000000<=a.tdiv b/\a.tdiv b<=100000000:=by
  generalize a.tdiv b=q at*;rcases Int.lt_or_le q 0 with c|c
  ·have:q*b<=q*1:=Int.mul_le_mul_of_nonpos_left (by omega) (by omega);by_cases d:q≤ -1
   ·have h3:(q+1)*b<=(q+1)*1:=Int.mul_le_mul_of_nonpos_left (by omega) (by omega);rw[Int.add_mul]at h3;omega
   omega
  have:q*1<=q*b:=Int.mul_le_mul_of_nonneg_left (by omega) c;by_cases d:1<=q
  ·have h3:(q-1)*1<=(q-1)*b:=Int.mul_le_mul_of_nonneg_left (by omega) (by omega);simp only[Int.sub_mul,Int.one_mul,Int.mul_one]at h3;omega
  omega
 rw[Zjc (by omega),ZcR (by omega)];have ew:IntKind.i64.wrap (a.tdiv b)=a.tdiv b:=ZaG (by omega) (by omega);rw[ew];simp only[Zag];by_cases c:a.tmod b<0
 ·rw[Zar (by simpa using c),Zag,ZaG (by omega) (by omega)]
  congr 1
  symm;refine Zon (by omega) ?_ ?_
  ·rw[Int.sub_mul];omega
  rw[Int.sub_mul];omega
 rw[Zaq (by simpa using c),Zag]
 congr 1
 symm;refine Zon (by omega) ?_ ?_<;>omega
theorem Zld (N:Nat){a b:Int}(hb:1<=b)(hb2:b<=1000000)(h1: -100000000<=a)(h2:a<=100000000):Zhd N a b=some (a/b):=by
 unfold Zhd;have m0:=Int.emod_nonneg a (show b≠0 by omega);have m1:=Int.emod_lt_of_pos a (show 0<b by omega);have hs:=ZdG (a:=a) (B:=100000000) hb h1 h2 (by omega);have e:a-a%b=b*(a/b):=by have:=Int.mul_ediv_add_emod a b;omega
 have ed:(b*(a/b)).tdiv b=a/b:=Int.mul_tdiv_cancel_left _ (by omega);have ew:IntKind.i64.wrap (a/b)=a/b:=ZaG (by omega) (by omega);rw[Zj5 N (by omega) hb2,Zag,ZaG (by omega) (by omega),e,Zjc (by omega),ed,ew,Zag]
theorem ZyF {x G:Int}(hG:1<=G): -((-x)/G)=(x+G-1)/G:=by
 symm;obtain⟨a,b⟩:=Znh (a:= -x) (G:=G) (by omega);refine Zon (by omega) ?_ ?_
 ·rw[Int.neg_mul];omega
 rw[Int.neg_mul];omega
section
variable {N:Nat} {t:Zav} {u:Zay} {s:Zat}
def useH (u:Zay)(n P:Int)(h:ZaX):ZaH:=⟨n,h.Port,(h.Early/u.Grid)%P,(h.Open+h.Long+u.Grid-1)/u.Grid-h.Early/u.Grid⟩
def ZjO (t:Zav)(u:Zay)(s:Zat)(r:List Int):List ZaX:=(List.range r.length).map (ZaY t u s r)
def Zc5 (t:Zav)(u:Zay)(n:Int)(s:Zat)(r:List Int):List ZaH:=(ZjO t u s r).map (useH u n s.Period)
def Znb (t:Zav)(u:Zay)(s:Zat)(r:List Int):Bool:=decide (Zbt t u (ZaY t u s r (r.length-1))+2*u.Slack>s.Deadline)
structure HN (u:Zay) (h:ZaX):Prop where
 e1: -2000<=h.Early
 e2:h.Early<=20000000
 o1:0<=h.Open
 o2:h.Open<=20000000
 l1:84<=h.Long
 l2:h.Long<=1542000
 eo:h.Early<=h.Open
theorem Zsi (g:Good t)(hu:ZfE u)(hs:Zkx s){r:List Int}(hv:ZbN t r=true){h:ZaX}(hh:h∈ZjO t u s r):HN u h/\Zcy t h.Port=true:=by
 obtain⟨h1,h8,hp⟩:=Zca hv;obtain⟨k,hk,rfl⟩:=List.mem_map.1 hh;rw[Z2]at hk;have hb:=ZgR g hu hs hp k hk;obtain⟨b1,b2,b3,b4⟩:=ZgY g hu hs hp h8 hk;have s1:=hu.s1;have s2:=hu.s2;refine⟨?_,hb.port⟩;cases k with
 |zero=>exact⟨by show -2000<=(0:Int);omega,by show(0:Int)<=20000000;omega,b1,b2,hb.long1,hb.long2,by show(0:Int)<=0;omega⟩
 |succ k=>
  obtain⟨n1,n2,n3,n4,n5,n6⟩:=Zve g hu hs hp hk;obtain⟨c1,c2,c3,c4⟩:=ZgY g hu hs hp h8 (show k<r.length by omega);exact⟨by omega,by omega,b1,b2,hb.long1,hb.long2,by omega⟩
theorem ZAv (hu:ZfE u){h:ZaX}(hn:HN u h){n P:Int}(hP:1<=P)(hP2:P<=1000):∃r2,Zer N h.Early u.Grid=some (h.Early/u.Grid)/\Zer N (w64 ((w64 ((w64 (h.Open+h.Long))+u.Grid))-1)) u.Grid=some ((h.Open+h.Long+u.Grid-1)/u.Grid)∧
  Zer N (h.Early/u.Grid) P=some r2/\ZaH.mk n h.Port (w64 (h.Early/u.Grid-(w64 (r2*P)))) (w64 ((h.Open+h.Long+u.Grid-1)/u.Grid-h.Early/u.Grid))=useH u n P h:=by
 obtain⟨e1,e2,o1,o2,l1,l2,_⟩:=hn;have g1:=hu.g1;have g2:=hu.g2;have d1:=ZdG (a:=h.Early) (B:=20000000) g1 (by omega) e2 (by omega);have d2:=ZdG (a:=h.Open+h.Long+u.Grid-1) (B:=22000000) g1 (by omega) (by omega) (by omega);have m0:=Int.emod_nonneg (h.Early/u.Grid) (show P≠0 by omega);have m1:=Int.emod_lt_of_pos (h.Early/u.Grid) (show 0<P by omega);have em:h.Early/u.Grid/P*P=h.Early/u.Grid-h.Early/u.Grid%P:=by have:=Int.mul_ediv_add_emod (h.Early/u.Grid) P;rw[Zo]at this;omega
 refine⟨h.Early/u.Grid/P,Zjf N g1 (by omega) (by omega),?_,Zjf N hP (by omega) (by omega),?_⟩
 ·rw[ZaG (x:=h.Open+h.Long) (by omega) (by omega),ZaG (x:=h.Open+h.Long+u.Grid) (by omega) (by omega),ZaG (x:=h.Open+h.Long+u.Grid-1) (by omega) (by omega)];exact Zjf N g1 (by omega) (by omega)
 unfold useH;rw[em,ZaG (x:=h.Early/u.Grid-h.Early/u.Grid%P) (by omega) (by omega),ZaG (x:=h.Early/u.Grid-(h.Early/u.Grid-h.Early/u.Grid%P)) (by omega) (by omega),ZaG (x:=(h.Open+h.Long+u.Grid-1)/u.Grid-h.Early/u.Grid) (by omega) (by omega)]
 congr 1
 omega
theorem Zta (hu:ZfE u){h:ZaX}(hn:HN u h){n P:Int}(hP:1<=P)(hP2:P<=1000):Zl1 N u n P h=some (useH u n P h):=by
 obtain⟨e1,e2,o1,o2,l1,l2,_⟩:=hn;have g1:=hu.g1;have g2:=hu.g2;have d1:=ZdG (a:=h.Early) (B:=20000000) g1 (by omega) e2 (by omega);have d2:=ZdG (a:=h.Open+h.Long+u.Grid-1) (B:=22000000) g1 (by omega) (by omega) (by omega);have c:=ZyF (x:=h.Open+h.Long) g1;unfold Zl1 useH;rw[Zld N g1 (by omega) (by omega) (by omega),Zag,ZaG (x:=h.Open+h.Long) (by omega) (by omega),show(0:Int)-(h.Open+h.Long)= -(h.Open+h.Long)by omega,ZaG (x:= -(h.Open+h.Long)) (by omega) (by omega),Zld N g1 (by omega) (by omega) (by omega),Zag,Zj5 N (by omega) (by omega),Zag];rw[show(0:Int)- -(h.Open+h.Long)/u.Grid=(h.Open+h.Long+u.Grid-1)/u.Grid by omega,ZaG (x:=(h.Open+h.Long+u.Grid-1)/u.Grid) (by omega) (by omega),ZaG (by omega) (by omega)]
structure Ac where
 late:Bool
 P:List Int
 U:List ZaH
def Zfa (t:Zav)(u:Zay)(a:Ac)(s:Zat):Ac:=
 if s.Class=7 then⟨a.late||s.Routes.any (Znb t u s),a.P++[s.Period],a.U++s.Routes.flatMap (Zc5 t u (a.P.length:Int) s)⟩else a
def accA (t:Zav)(u:Zay)(l:List Zat):Ac:=l.foldl (Zfa t u) ⟨false,[],[]⟩
structure SS (t:Zav) (s:Zat):Prop where
 str:Zbv t s=true
 cls:s.Class=7
 per1:1<=s.Period
 per2:s.Period<=240
 dl:s.Deadline<=1099511627776
 r1:1<=s.Routes.length
 r2:s.Routes.length<=2
 rt:∀r∈s.Routes,ZbN t r=true
theorem SS.of (h:Zbv t s=true)(hc:s.Class=7):SS t s:=by
 obtain⟨⟨r1,r2⟩,hr⟩:=Zk2 h;have h':=h;simp only[Zbv,ZuG,inB,Zrj,Ze,Zao]at h';obtain⟨h1,h2,_⟩:=h';rw[Zar (by simp[hc])]at h2;simp only[inB,Ze,Zao]at h2;refine⟨h,hc,h2.1.1,h2.1.2,h1.2.2.2.2.2.2,r1,r2,λr hm=>?_⟩;obtain⟨k,hk,rfl⟩:=List.getElem_of_mem hm;have:=(Zij hr hk).1
 rwa [ZbC hk]at this
theorem Zow (g:Good t){r:List Int}(hv:ZbN t r=true)(n:Int):(Zc5 t u n s r).length<=8:=by
 have:=(Zca hv).2.1;simp[Zc5,ZjO];omega
theorem ZcY {α:Type}{l:List α}{k:Nat}(hk:k<l.length):l.take (k+1)=l.take k++[l[k]]:=by
 rw[Zac hk]
theorem Zmp {α β:Type}(f:α->List β){B:Nat}:∀(l:List α),(∀x∈l,(f x).length<=B)->(l.flatMap f).length<=B*l.length
 |[],_=>by simp
 |x::l,h=>by
  have h1:=Zmp f l λy hy=>h y (by simp[hy])
  have h2:=h x (by simp);simp only[List.flatMap_cons,ZS,ZT];rw[Nat.mul_add];omega
theorem ZkD (k:Nat)(hk:k<s.Routes.length):Ze3 s (k:Int)=s.Routes[k]:=by
 unfold Ze3;rw[Zr,ZbC hk]
theorem Zm2 (hT:Zez t=true)(hU:Zd6 u=true)(h:SS t s){b:Bool}{P:List Int}{U:List ZaH}(hP:P.length<=100)(hUl:U.length<=900)(hN:2000<=N):
  ZfX N ⟨⟨P,U⟩,b⟩ t u s=some (0,⟨⟨(Zfa t u ⟨b,P,U⟩ s).P,(Zfa t u ⟨b,P,U⟩ s).U⟩,(Zfa t u ⟨b,P,U⟩ s).late⟩):=by
 have g:=Zbo.1 hT;have hu:=Zbx hU;have hs:=Zd4 h.str;have p1:=h.per1;have p2:=h.per2;have r1:=h.r1;have r2:=h.r2;unfold ZfX Zfa;rw[Zar h.cls];simp only;rw[Ziy (by omega) (by omega),Zag];obtain⟨o,ho,eo⟩:=Zb6 (body:=λx:Int×Bool×(List ZaH)=>Zfx N ⟨⟨P,U⟩,b⟩ t u s (P++[s.Period]) x.1 x.2.1 x.2.2)
  (λx=>∃k:Nat,x.1=k/\k<=s.Routes.length/\x.2.1=(b||(s.Routes.take k).any (Znb t u s))/\x.2.2=U++(s.Routes.take k).flatMap (Zc5 t u (P.length:Int) s)) (λx=>(s.Routes.length-x.1).toNat)
  (λr=>r=.inl (b||s.Routes.any (Znb t u s),U++s.Routes.flatMap (Zc5 t u (P.length:Int) s))) (λx hx=>by
   obtain⟨i,b',U'⟩:=x;obtain⟨k,k1,k2,k3,k4⟩:=hx;simp only at k1 k3 k4;subst k1 k3 k4;simp only[Zfx];by_cases c:k<s.Routes.length
   ·left;have hv:=h.rt _ (List.getElem_mem c);obtain⟨v1,v8,vp⟩:=Zca hv;refine⟨(((k+1:Nat):Int),b||(s.Routes.take (k+1)).any (Znb t u s),U++(s.Routes.take (k+1)).flatMap (Zc5 t u (P.length:Int) s)),?_,⟨k+1,rfl,by omega,rfl,rfl⟩,by simp;omega⟩;rw[Zar (by simpa using c),Zge hT hU h.str h.cls (by omega) (by omega) (by omega),Zag,ZkD k c,ZnS hT hU h.str h.cls (by omega) (by omega) (by omega),ZkD k c];simp only[Zam,Zg,Zap,Zag];have hfl:((s.Routes.take k).flatMap (Zc5 t u (P.length:Int) s)).length<=8*(s.Routes.take k).length:=Zmp _ _ λr hr=>Zow g (h.rt r (List.mem_of_mem_take hr)) _
    have htl:(s.Routes.take k).length<=2:=by simp;omega
    obtain⟨q,hq,eq⟩:=Zb6 (body:=λx:Int×(List ZaH)=>Zfw N ⟨⟨P,U⟩,b⟩ u s ((List.range s.Routes[k].length).map (ZaY t u s s.Routes[k]),0) x.1 x.2)
     (λx=>∃j:Nat,x.1=j/\j<=s.Routes[k].length/\x.2=U++(s.Routes.take k).flatMap (Zc5 t u (P.length:Int) s)++(Zc5 t u (P.length:Int) s s.Routes[k]).take j) (λx=>(s.Routes[k].length-x.1).toNat)
     (λr=>r=U++(s.Routes.take k).flatMap (Zc5 t u (P.length:Int) s)++Zc5 t u (P.length:Int) s s.Routes[k]) (λx hx=>by
      obtain⟨i,U'⟩:=x;obtain⟨j,j1,j2,j3⟩:=hx;simp only at j1 j3;subst j1 j3;simp only[Zfw];have hlen:(Zc5 t u (P.length:Int) s s.Routes[k]).length=s.Routes[k].length:=by simp[Zc5,ZjO]
      by_cases d:j<s.Routes[k].length
      ·left;refine⟨(((j+1:Nat):Int),U++(s.Routes.take k).flatMap (Zc5 t u (P.length:Int) s)++(Zc5 t u (P.length:Int) s s.Routes[k]).take (j+1)),?_,⟨j+1,rfl,by omega,rfl⟩,by simp;omega⟩;have hmem:ZaY t u s s.Routes[k] j∈ZjO t u s s.Routes[k]:=List.mem_map.2 ⟨j,List.mem_range.2 d,rfl⟩;obtain⟨x2,f1,f2,f3,f4⟩:=ZAv (N:=N) hu (Zsi g hu hs hv hmem).1 (n:=(P.length:Int)) p1 (by omega);have eh:(Zc5 t u (P.length:Int) s s.Routes[k])[j]'(by omega)=useH u (P.length:Int) s.Period (ZaY t u s s.Routes[k] j):=by simp[Zc5,ZjO]
       rw[Zar (by simpa using d),ZhP _ d,Zag,f1,Zag,f2,Zag,f3,Zag,f4,Ziy (by simp only[ZS,ZY];omega) (by omega),Zag,ZaL (by omega),ZcY (by omega),eh];simp only[Zu]
      right;obtain rfl:j=s.Routes[k].length:=by omega
      refine⟨U++(s.Routes.take k).flatMap (Zc5 t u (P.length:Int) s)++Zc5 t u (P.length:Int) s s.Routes[k],?_,rfl⟩;rw[Zaq (by simp),Zab (Nat.le_of_eq hlen)]) N (0,U++(s.Routes.take k).flatMap (Zc5 t u (P.length:Int) s)) ⟨0,rfl,by omega,by simp⟩ (by simp;omega)
    rw[hq,Zag,eq];have hj:s.Routes[k].length-1<s.Routes[k].length:=by omega
    obtain⟨b1,b2,b3,b4⟩:=ZgY g hu hs vp v8 hj;have s1:=hu.s1;have s2:=hu.s2;rw[ZaG (x:=2*u.Slack) (by omega) (by omega),ZaG (x:=Zbt t u (ZaY t u s s.Routes[k] (s.Routes[k].length-1))+2*u.Slack) (by omega) (by omega),ZaL (by omega),ZcY c,List.any_append,List.flatMap_append];have el:decide (Zbt t u (ZaY t u s s.Routes[k] (s.Routes[k].length-1))+2*u.Slack>s.Deadline)=Znb t u s s.Routes[k]:=rfl;rw[el];simp only[List.any_cons,List.any_nil,Bool.or_false,List.flatMap_cons,List.flatMap_nil,List.append_nil,Zu];cases b<;>cases (s.Routes.take k).any (Znb t u s)<;>simp
   right;obtain rfl:k=s.Routes.length:=by omega
   exact⟨_,by rw[Zaq (by simp)],by simp⟩) N (0,b,U) ⟨0,rfl,by omega,by simp,by simp⟩ (by simp;omega)
 rw[ho,Zag,eo]
end
end Go.Sh

