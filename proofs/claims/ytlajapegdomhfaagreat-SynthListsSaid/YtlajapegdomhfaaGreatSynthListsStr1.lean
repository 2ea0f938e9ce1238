/-Part of the proof. -/
import Derived.Test.YtlajapegdomhfaaGreatSynthListsBase
import Derived.Test.YtlajapegdomhfaaGreatSynthListsRd
import Derived.KernelRfl
set_option linter.all false
namespace Go.Sh
open Go Go.Eng
section
variable {N:Nat} {t:Zan}
theorem ZjX (g:Good t)(r:List Int)(hN:200<=N):Zds N t r=some (ZbB t r):=by
 by_cases h:r.length<=100
 ·exact Zqk g h hN
 unfold Zds ZbB;rw[Zaj (by simp;omega)];have:decide (r.length<=8)=false:=by simp;omega
 rw[this];simp
theorem ZjO (g:Good t)(r:List Int)(hN:200<=N):Zco N ⟨t⟩ r=some (ZbB t r):=by
 by_cases h:r.length<=100
 ·exact ZhM g h hN
 unfold Zco ZbB;rw[Zaj (by simp;omega)];have:decide (r.length<=8)=false:=by simp;omega
 rw[this];simp
theorem Zmt {r:List Int}(h:ZbB t r=true):r.length<=100:=by have:=Zb1 h;omega
theorem ZgV (r:List Int)(hN:200<=N):ZeJ N t r=some (errR t r):=by
 by_cases h:r.length<=100
 ·exact Zfy h hN
 unfold ZeJ errR;rw[Zgl (by omega),Z9];cases hT:Zeo t with
 |false=>rfl
 |true=>
  simp only[Zak,Zaf,Zg,Zah];rw[ZjO (Zbe.1 hT) r hN,Z9];cases ZbB t r<;>rfl
theorem Zp3 (r:List Int)(hN:200<=N):ZeO N t r=some (if errR t r=0 then(nd t r 0,nd t r r.length,0)else(0,0,errR t r)):=by
 by_cases he:errR t r=0
 ·rw[Zaj he];exact Zp1 (Zmt (Zkf.1 he).2) hN he
 rw[Zai he];by_cases h:r.length<=100
 ·exact Zp2 h hN he
 have hne:(errR t r !=0)=true:=by simpa using he
 unfold ZeO ZeI ZdH;rw[ZgV r hN];simp only[Z9,hne,Zak]
theorem ZoH (a b:List Int)(hN:200<=N):
  ZeK N t a b=some (if errR t a=0 then(if ZbB t b then(ZpP t a b,0)else(false,310))else(false,errR t a)):=by
 by_cases ha:a.length<=100
 ·by_cases hb:b.length<=100
  ·exact Zp5 ha hb hN
  have hvb:ZbB t b=false:=by
   cases h:ZbB t b with
   |false=>rfl
   |true=>exact absurd (Zmt h) hb
  unfold ZeK ZdG;rw[ZgV a hN,Z9];by_cases he:errR t a=0
  ·rw[Zaj he,he];simp only[Zaf,Zg,Zah];unfold Zeb;rw[ZjO (Zbe.1 (Zkf.1 he).1) b hN,hvb];rfl
  rw[Zai he];have:(errR t a !=0)=true:=by simpa using he
  rw[this];rfl
 have hva:ZbB t a=false:=by
  cases h:ZbB t a with
  |false=>rfl
  |true=>exact absurd (Zmt h) ha
 have he:errR t a≠0:=λe=>by have:=(Zkf.1 e).2;rw[hva]at this;cases this
 unfold ZeK ZdG;rw[ZgV a hN,Z9,Zai he];have:(errR t a !=0)=true:=by simpa using he
 rw[this];rfl
def inB (v l h:Int):Bool:=decide (v≥l)&&decide (v<=h)
def ZdR (u:Zaq):Bool:=inB u.Grid 1 10000&&(inB u.Slack 0 1000&&(inB u.Proc 0 10000&&inB u.Cap 1542 65536))
def ZpY (t:Zan)(n:Int):Bool:=ZeV t n&&stB t n
def Zq0 (s:Zam):Bool:=
 if s.Class==7 then inB s.Period 1 240&&((s.Bucket.Burst==0)&&(s.Bucket.Rate==0))
 else if s.Class==6 then(s.Period==0)&&(inB s.Bucket.Burst s.Size 1048576&&inB s.Bucket.Rate 1 2097152)else false
def ZgD (t:Zan)(s:Zam)(r:List Int):Bool:=ZbB t r&&((nd t r 0==s.Talker)&&(nd t r r.length==s.Listener))
def ZtQ (t:Zan)(s:Zam):Bool:=decide (s.Routes.length<2)||ZpP t (s.Routes.getD 0 []) (s.Routes.getD 1 [])
def ZtZ (t:Zan)(s:Zam):Bool:=
 inB s.Id 1 4095&&(ZpY t s.Talker&&(ZpY t s.Listener&&((s.Talker !=s.Listener)&&(inB s.Size 84 1542&&inB s.Deadline 1 1099511627776))))
def lenB (s:Zam):Bool:=decide (1<=s.Routes.length)&&decide (s.Routes.length<=2)
def Zbq (t:Zan)(s:Zam):Bool:=ZtZ t s&&(Zq0 s&&(lenB s&&(s.Routes.all (ZgD t s)&&ZtQ t s)))
theorem Zc2 (v l h:Int):Zbw N v l h=some (inB v l h):=rfl
theorem ZiQ (v l h:Int):ZcZ N v l h=some (inB v l h):=rfl
theorem Zge (u:Zaq):Zc3 N u=some (if ZdR u then 0 else 320):=by
 unfold Zc3 ZdR;simp only[Zc2,Z9];cases inB u.Grid 1 10000<;>cases inB u.Slack 0 1000<;>cases inB u.Proc 0 10000<;>cases inB u.Cap 1542 65536<;>rfl
theorem Zqj (u:Zaq):ZiT N u=some (ZdR u):=by
 unfold ZiT ZdR;simp only[ZiQ,Z9];cases inB u.Grid 1 10000<;>cases inB u.Slack 0 1000<;>cases inB u.Proc 0 10000<;>cases inB u.Cap 1542 65536<;>rfl
theorem Zur (g:Good t)(n:Int):inB n 0 (w64 (t.Nodes-1))=ZeV t n:=by
 rw[ZaA (by have:=g.n2;omega) (by have:=g.n12;omega)];unfold inB ZeV
 congr 1
 exact decide_eq_decide.2 ⟨λh=>by omega,λh=>by omega⟩
theorem ZmF (g:Good t)(n:Int):Zet N t n=some (ZpY t n):=by
 unfold Zet ZpY;simp only[Zc2,Zur g,Z9];cases h:ZeV t n with
 |false=>rfl
 |true=>simp only[Zak,Zf9 g.st h,Z9,Zk]
theorem ZnV (g:Good t)(n:Int):Zdr N t n=some (ZpY t n):=by
 unfold Zdr ZpY;simp only[ZiQ,Zur g,Z9];cases h:ZeV t n with
 |false=>rfl
 |true=>simp only[Zak,Zf9 g.st h,Z9,Zk]
theorem Zou (g:Good t)(s:Zam)(r:List Int)(hN:200<=N):Zhr N t r s.Talker s.Listener=some (ZgD t s r):=by
 unfold Zhr ZgD;rw[Zp3 r hN,Z9];have hT:=Zbe.2 g;by_cases he:errR t r=0
 ·rw[Zaj he,(Zkf.1 he).2];rfl
 rw[Zai he];have hv:ZbB t r=false:=by
  cases h:ZbB t r with
  |false=>rfl
  |true=>exact absurd (Zkf.2 ⟨hT,h⟩) he
 have:(errR t r==0)=false:=by simpa using he
 simp only[this,hv,Bool.false_and]
theorem Zmn {α:Type}(l:List α)(d:α)(p:α->Bool):allB l.length (λk=>p (l.getD k d))=l.all p:=by
 rw[Zf,ZbD,Zq];constructor
 ·intro h x hx;obtain⟨k,hk,rfl⟩:=List.getElem_of_mem hx;have:=h k hk
  rwa [Zbp hk]at this
 intro h k hk;rw[Zbp hk];exact h _ (List.getElem_mem hk)
theorem Zxs {s:Zam}:inB ((List.length s.Routes:Nat):Int) 1 2=lenB s:=by
 unfold inB lenB
 congr 1<;>exact decide_eq_decide.2 ⟨λh=>by omega,λh=>by omega⟩
theorem Zmy (g:Good t){s:Zam}(hl:lenB s=true)(hN:200<=N):Zer N s t=some (s.Routes.all (ZgD t s)):=by
 simp only[lenB,Ze,Zag]at hl;unfold Zer;have:=Za7 (n:=s.Routes.length) (p:=λk=>ZgD t s (s.Routes.getD k [])) (body:=λx:Int=>Zea N s t x) (bad:=.inr false) (fin:=.inl ()) (λk hk=>by
  unfold Zea;rw[Zaj (by simp;omega),Zbj hk,Z9,Zbp hk,Zou g s _ hN,Z9,ZaB (by omega)];cases ZgD t s s.Routes[k]<;>rfl) (by unfold Zea;rw[Zai (by simp)]) (N:=N) (by omega)
 rw[this,Zmn s.Routes [] (ZgD t s)];cases s.Routes.all (ZgD t s)<;>rfl
theorem Zh9 {s:Zam}(h:s.Routes.all (ZgD t s)=true){k:Nat}(hk:k<s.Routes.length):ZbB t (s.Routes.getD k [])=true/\nd t (s.Routes.getD k []) 0=s.Talker/\nd t (s.Routes.getD k []) (s.Routes.getD k []).length=s.Listener:=by
 have:=List.all_eq_true.1 h _ (List.getElem_mem hk);rw[Zbp hk];simpa only[ZgD,Ze,beq_iff_eq]using this
theorem Zmw (g:Good t){s:Zam}(hl:lenB s=true)(hr:s.Routes.all (ZgD t s)=true)(hN:200<=N):Zeq N s t=some (ZtQ t s):=by
 simp only[lenB,Ze,Zag]at hl;unfold Zeq ZtQ;by_cases h2:s.Routes.length<2
 ·rw[Zaj (by simp;omega)];simp[h2]
 rw[Zai (by simp;omega),show(0:Int)=((0:Nat):Int)from rfl,show(1:Int)=((1:Nat):Int)from rfl,Zbj (by omega),Zbj (by omega)];simp only[Z9];have e0:=Zh9 hr (k:=0) (by omega);have e1:=Zh9 hr (k:=1) (by omega);rw[Zbp (by omega)]at e0 e1;rw[ZoH _ _ hN,Zaj (Zkf.2 ⟨Zbe.2 g,e0.1⟩),e1.1,Z9,Zbp (by omega),Zbp (by omega)];simp[h2]
theorem ZjG (g:Good t)(s:Zam)(hN:200<=N):ZfP N t s=some (Zbq t s):=by
 unfold ZfP Zfv Zfu Zft Zfs Zfr;simp only[Zc2,Z9,ZmF g,Zxs];unfold Zbq ZtZ;cases inB s.Id 1 4095 with
 |false=>rfl
 |true=>
 cases ZpY t s.Talker with
 |false=>rfl
 |true=>
 cases ZpY t s.Listener with
 |false=>rfl
 |true=>
 cases h4:(s.Talker !=s.Listener)with
 |false=>simp
 |true=>
 cases h5:inB s.Size 84 1542 with
 |false=>simp
 |true=>
 cases inB s.Deadline 1 1099511627776 with
 |false=>simp
 |true=>
 have hc:Zes N s=some (Zq0 s):=by
  unfold Zes Zq0;simp only[Zc2,Z9];by_cases c7:(s.Class==7)=true
  ·rw[Zaj c7,Zaj c7];cases inB s.Period 1 240<;>simp
  rw[Zai c7,Zai c7];by_cases c6:(s.Class==6)=true
  ·rw[Zaj c6,Zaj c6];cases s.Period==0 with
   |false=>rfl
   |true=>
    simp only[Zak];unfold Zkh Zel;simp only[Z9];simp only[inB,Ze,Zag]at h5;unfold inB;by_cases q1:s.Bucket.Burst≥s.Size
    ·have q2:(1:Int)<=s.Bucket.Burst:=by omega
     by_cases q3:s.Bucket.Burst<=1048576<;>by_cases q4:(1:Int)<=s.Bucket.Rate<;>by_cases q5:s.Bucket.Rate<=2097152<;>simp[q1,q2,q3,q4,q5,ge_iff_le]
    by_cases q2:(1:Int)<=s.Bucket.Burst<;>by_cases q3:s.Bucket.Burst<=1048576<;>by_cases q4:(1:Int)<=s.Bucket.Rate<;>by_cases q5:s.Bucket.Rate<=2097152<;>simp[q1,q2,q3,q4,q5,ge_iff_le]
  rw[Zai c6,Zai c6]
 rw[hc];cases Zq0 s with
 |false=>simp
 |true=>
 cases hl:lenB s with
 |false=>simp
 |true=>
 rw[Zmy g hl hN];cases hr:s.Routes.all (ZgD t s)with
 |false=>simp
 |true=>
 rw[Zmw g hl hr hN];cases ZtQ t s<;>simp
end
end Go.Sh

namespace Go.Sh
open Go Go.Eng
theorem ZtS {κ υ:Type}[DecidableEq κ](l:List (κ×υ))(x y:κ)(v z:υ):ZhZ (Zd2 l x v) y z=if y=x then v else ZhZ l y z:=by
 induction l with
 |nil=>
  unfold ZhZ Zs3;simp only[Zd2,Zv,List.find?_nil];by_cases e:x=y
  ·subst e;simp
  simp[e,Ne.symm e]
 |cons p r ih=>
  unfold ZhZ Zs3 at ih⊢;simp only[Zd2];by_cases e:p.1=x
  ·subst e;simp only[Zak,Zv];by_cases e:p.1=y
   ·subst e;simp
   simp[e,Ne.symm e]
  simp only[e,Zah,Zv];by_cases e2:p.1=y
  ·subst e2;simp[e]
  simp only[e2,decide_false];exact ih
structure Zfp (u:Zaq):Prop where
 g1:1<=u.Grid
 g2:u.Grid<=10000
 s1:0<=u.Slack
 s2:u.Slack<=1000
 p1:0<=u.Proc
 p2:u.Proc<=10000
theorem ZbT {u:Zaq}(h:ZdR u=true):Zfp u:=by
 simp only[ZdR,inB,Ze,Zag]at h;obtain⟨⟨a,b⟩,⟨c,d⟩,⟨e,f⟩,_⟩:=h;exact⟨a,b,c,d,e,f⟩
def Zbm (t:Zan)(u:Zaq)(h:ZaP):Int:=h.Open+h.Long+(plk t h.Port).Delay+u.Proc
def hop0 (t:Zan)(s:Zam)(r:List Int):ZaP:=⟨at0 r 0,0,0,0,s.Size*(plk t (at0 r 0)).Per⟩
def Zm8 (u:Zaq)(x:Int):Int:=(x+u.Grid-1)/u.Grid*u.Grid
def hopN (t:Zan)(u:Zaq)(s:Zam)(h:ZaP)(p:Int):ZaP:=
 ⟨p,Zbm t u h-2*u.Slack,Zbm t u h+2*u.Slack,Zm8 u (Zbm t u h+2*u.Slack),s.Size*(plk t p).Per⟩
def ZaQ (t:Zan)(u:Zaq)(s:Zam)(r:List Int):Nat->ZaP
 |0=>hop0 t s r
 |k+1=>hopN t u s (ZaQ t u s r k) (at0 r (k+1))
theorem Zr1 {u:Zaq}(h:Zfp u){x:Int}(hx:0<=x):x<=Zm8 u x/\Zm8 u x<x+u.Grid/\Zm8 u x%u.Grid=0:=by
 unfold Zm8;have hg:=h.g1;have e:=Int.mul_ediv_add_emod (x+u.Grid-1) u.Grid;have e1:=Int.emod_nonneg (x+u.Grid-1) (show u.Grid≠0 by omega);have e2:=Int.emod_lt_of_pos (x+u.Grid-1) (show 0<u.Grid by omega);rw[Zl]at e;refine⟨by omega,by omega,?_⟩;exact Int.mul_emod_left _ _
section
variable {N:Nat} {t:Zan} {u:Zaq} {s:Zam}
theorem ZgK (g:Good t){p:Int}(hp:Zcq t p=true):1<=(plk t p).Per/\(plk t p).Per<=1000/\0<=(plk t p).Delay/\(plk t p).Delay<=10000:=by
 obtain⟨h1,h2⟩:=Zwb hp;have:=(g.links (Int.tdiv p 2).toNat (by omega)).1;simp only[Zfb,Ze,Zag]at this;exact⟨this.2.2.2.2.1,this.2.2.2.2.2.1,this.2.2.2.2.2.2.1,this.2.2.2.2.2.2.2⟩
def Zkj (s:Zam):Prop:=84<=s.Size/\s.Size<=1542
theorem Zpp (g:Good t)(hs:Zkj s){p:Int}(hp:Zcq t p=true):84<=s.Size*(plk t p).Per/\s.Size*(plk t p).Per<=1542000:=by
 obtain⟨h1,h2,_,_⟩:=ZgK g hp;obtain⟨a,b⟩:=hs;have c:s.Size*1<=s.Size*(plk t p).Per:=Int.mul_le_mul_of_nonneg_left h1 (by omega);have d:s.Size*(plk t p).Per<=s.Size*1000:=Int.mul_le_mul_of_nonneg_left h2 (by omega);omega
structure HB (t:Zan) (k:Nat) (h:ZaP):Prop where
 port:Zcq t h.Port=true
 long1:84<=h.Long
 long2:h.Long<=1542000
 op1:0<=h.Open
 op2:h.Open<=1600000*(k:Int)
theorem HB.told (g:Good t)(hu:Zfp u){k:Nat}{h:ZaP}(hb:HB t k h):h.Open+84<=Zbm t u h/\Zbm t u h<=1600000*(k:Int)+1562000/\h.Open+h.Long<=Zbm t u h:=by
 obtain⟨h1,h2,h3,h4,h5⟩:=hb;obtain⟨_,_,d1,d2⟩:=ZgK g h1;have:=hu.p1;have:=hu.p2;unfold Zbm;omega
theorem Zvv (k:Nat)(r:List Int):(ZaQ t u s r k).Port=at0 r k:=by cases k<;>rfl
theorem Zvw (k:Nat)(r:List Int):(ZaQ t u s r k).Long=s.Size*(plk t (at0 r k)).Per:=by cases k<;>rfl
theorem ZgF (g:Good t)(hu:Zfp u)(hs:Zkj s){r:List Int}(hp:∀k,k<r.length->Zcq t (at0 r k)=true):∀k,k<r.length->HB t k (ZaQ t u s r k)
 |0,hk=>by
  have:=Zpp g hs (hp 0 hk);exact⟨hp 0 hk,this.1,this.2,Int.le_refl 0,by simp[ZaQ,hop0]⟩
 |k+1,hk=>by
  have ih:=ZgF g hu hs hp k (by omega);have:=Zpp g hs (hp (k+1) hk);have ht:=ih.told g hu;have h0:=ih.op1;have c:=Zr1 hu (x:=Zbm t u (ZaQ t u s r k)+2*u.Slack) (by have:=hu.s1;omega);have:=hu.s1;have:=hu.s2;have:=hu.g2;refine⟨hp (k+1) hk,?_,?_,?_,?_⟩
  ·show 84<=s.Size*(plk t (at0 r (k+1))).Per;omega
  ·show s.Size*(plk t (at0 r (k+1))).Per<=1542000;omega
  ·show 0<=Zm8 u (Zbm t u (ZaQ t u s r k)+2*u.Slack);omega
  show Zm8 u (Zbm t u (ZaQ t u s r k)+2*u.Slack)<=1600000*((k+1:Nat):Int);omega
def stAt (t:Zan)(u:Zaq)(s:Zam)(r:List Int):Nat->ZaP
 |0=>⟨0,0,0,0,0⟩
 |k+1=>ZaQ t u s r k
theorem Zwq {σ:Type}(g:Good t)(hu:Zfp u)(hs:Zkj s){r:List Int}(h8:r.length<=8)(hp:∀k,k<r.length->Zcq t (at0 r k)=true){k:Nat}(hk:k<r.length){y:σ->ZaP->Option (σ×Bool)}{b b':σ}
  (hy:y b (ZaQ t u s r k)=some (b',true)):ZbF N y s t u r (k:Int) (stAt t u s r k).Port (stAt t u s r k).Early (stAt t u s r k).Late (stAt t u s r k).Open (stAt t u s r k).Long b=
   some (.inl (((k+1:Nat):Int),(ZaQ t u s r k).Port,(ZaQ t u s r k).Early,(ZaQ t u s r k).Late,(ZaQ t u s r k).Open,(ZaQ t u s r k).Long,b')):=by
 have hL:t.Links.length<=1000:=by have:=g.l24;omega
 have hlen:=Zpp g hs (hp k hk);have hb:=ZgF g hu hs hp k hk;unfold ZbF;rw[Zaj (by simp;omega),Zbj hk,Z9];have hat:r[k]=at0 r k:=(ZlE hk).symm;have key:(if decide ((k:Int)>0)=true then(idx t.Links (w64 (Int.tdiv (stAt t u s r k).Port 2))).bind λe1020=>
    (quoI .i64 (w64 ((w64 ((w64 ((w64 ((w64 ((w64 ((stAt t u s r k).Open+(stAt t u s r k).Long))+e1020.Delay))+u.Proc))+(w64 (2*u.Slack))))+u.Grid))-1)) u.Grid).bind λq1026=>
    (some ((w64 ((w64 ((w64 ((w64 ((stAt t u s r k).Open+(stAt t u s r k).Long))+e1020.Delay))+u.Proc))-(w64 (2*u.Slack)))),(w64 ((w64 ((w64 ((w64 ((stAt t u s r k).Open+(stAt t u s r k).Long))+e1020.Delay))+u.Proc))+(w64 (2*u.Slack)))),(w64 (q1026*u.Grid))))
   else some ((stAt t u s r k).Early,(stAt t u s r k).Late,(stAt t u s r k).Open))=some ((ZaQ t u s r k).Early,(ZaQ t u s r k).Late,(ZaQ t u s r k).Open):=by
  cases k with
  |zero=>rw[Zai (by simp)];rfl
  |succ j=>
   rw[Zaj (by simp only[Zag];omega)];have hbj:=ZgF g hu hs hp j (by omega);obtain⟨o1,o2,o3⟩:=hbj.told g hu;obtain⟨_,_,d1,d2⟩:=ZgK g hbj.port;obtain⟨g1,g2,s1,s2,p1,p2⟩:=hu;have l1:=hbj.long1;have l2:=hbj.long2;have l3:=hbj.op1;have l4:=hbj.op2;have hj:(j:Int)<=8:=by omega
   show((idx t.Links (w64 (Int.tdiv (ZaQ t u s r j).Port 2))).bind λe1020=>_)=_;rw[Znq hL hbj.port,Z9];have e1:w64 ((ZaQ t u s r j).Open+(ZaQ t u s r j).Long)=(ZaQ t u s r j).Open+(ZaQ t u s r j).Long:=ZaA (by omega) (by omega);have e2:w64 ((ZaQ t u s r j).Open+(ZaQ t u s r j).Long+(plk t (ZaQ t u s r j).Port).Delay)=(ZaQ t u s r j).Open+(ZaQ t u s r j).Long+(plk t (ZaQ t u s r j).Port).Delay:=ZaA (by omega) (by omega);have e3:w64 ((ZaQ t u s r j).Open+(ZaQ t u s r j).Long+(plk t (ZaQ t u s r j).Port).Delay+u.Proc)=Zbm t u (ZaQ t u s r j):=ZaA (by omega) (by omega);have e4:w64 (2*u.Slack)=2*u.Slack:=ZaA (by omega) (by omega);simp only[stAt,e1,e2,e3,e4];have e5:w64 (Zbm t u (ZaQ t u s r j)+2*u.Slack)=Zbm t u (ZaQ t u s r j)+2*u.Slack:=ZaA (by omega) (by omega);have e6:w64 (Zbm t u (ZaQ t u s r j)-2*u.Slack)=Zbm t u (ZaQ t u s r j)-2*u.Slack:=ZaA (by omega) (by omega);have e7:w64 (Zbm t u (ZaQ t u s r j)+2*u.Slack+u.Grid)=Zbm t u (ZaQ t u s r j)+2*u.Slack+u.Grid:=ZaA (by omega) (by omega);have e8:w64 (Zbm t u (ZaQ t u s r j)+2*u.Slack+u.Grid-1)=Zbm t u (ZaQ t u s r j)+2*u.Slack+u.Grid-1:=ZaA (by omega) (by omega);rw[e5,e6,e7,e8,Zi0 (by omega),Z9];have hn:0<=Zbm t u (ZaQ t u s r j)+2*u.Slack+u.Grid-1:=by omega
   rw[Zm hn];have q1:0<=(Zbm t u (ZaQ t u s r j)+2*u.Slack+u.Grid-1)/u.Grid:=Int.ediv_nonneg hn (by omega);have q2:(Zbm t u (ZaQ t u s r j)+2*u.Slack+u.Grid-1)/u.Grid<=Zbm t u (ZaQ t u s r j)+2*u.Slack+u.Grid-1:=Int.ediv_le_self _ hn;have e9:IntKind.i64.wrap ((Zbm t u (ZaQ t u s r j)+2*u.Slack+u.Grid-1)/u.Grid)=(Zbm t u (ZaQ t u s r j)+2*u.Slack+u.Grid-1)/u.Grid:=ZaA (by omega) (by omega);have c:=Zr1 ⟨g1,g2,s1,s2,p1,p2⟩ (x:=Zbm t u (ZaQ t u s r j)+2*u.Slack) (by omega);have e10:w64 ((Zbm t u (ZaQ t u s r j)+2*u.Slack+u.Grid-1)/u.Grid*u.Grid)=Zm8 u (Zbm t u (ZaQ t u s r j)+2*u.Slack):=ZaA (by unfold Zm8 at c;omega) (by unfold Zm8 at c;omega);rw[e9,e10];rfl
 rw[key,Z9,hat,Znq hL (hp k hk),Z9];have e11:w64 (s.Size*(plk t (at0 r k)).Per)=s.Size*(plk t (at0 r k)).Per:=ZaA (by omega) (by omega);have e12:(ZaP.mk (at0 r k) (ZaQ t u s r k).Early (ZaQ t u s r k).Late (ZaQ t u s r k).Open (s.Size*(plk t (at0 r k)).Per))=ZaQ t u s r k:=by
  cases k<;>rfl
 rw[e11];simp only;rw[e12,hy,Z9,ZaB (by omega)];simp only[Zi,Zg,Zah,Zvv,Zvw]
theorem Zut {σ:Type}(g:Good t)(hu:Zfp u)(hs:Zkj s){r:List Int}(hr:ZbB t r=true){y:σ->ZaP->Option (σ×Bool)}(G:Nat->σ)(hy:∀k,k<r.length->y (G k) (ZaQ t u s r k)=some (G (k+1),true)){kk:Int}
  (hk:idx s.Routes kk=some r) (hN:200<=N):Zdm N y s kk t u (G 0)=some (G r.length):=by
 obtain⟨h1,h8,hp⟩:=Zb1 hr;unfold Zdm;rw[hk,Z9];have key:∀(M m N k:Nat),r.length-k=m->k<=r.length->m<N->ZaH (λx:Int×Int×Int×Int×Int×Int×σ=>ZbF M y s t u r x.1 x.2.1 x.2.2.1 x.2.2.2.1 x.2.2.2.2.1 x.2.2.2.2.2.1 x.2.2.2.2.2.2) N ((k:Int),(stAt t u s r k).Port,(stAt t u s r k).Early,(stAt t u s r k).Late,(stAt t u s r k).Open,(stAt t u s r k).Long,G k)=some (.inl (G r.length)):=by
  intro M m;induction m with
  |zero=>
   intro N k e1 e2 e3;obtain rfl:k=r.length:=by omega
   cases N with
   |zero=>omega
   |succ N=>
    rw[Za9 (r:=(.inl (G r.length)))];show ZbF _ y s t u r ((r.length:Nat):Int) _ _ _ _ _ _=_;unfold ZbF;rw[Zai (by simp)]
  |succ m ih=>
   intro N k e1 e2 e3;cases N with
   |zero=>omega
   |succ N=>
    have hst:=Zwq (N:=M) g hu hs h8 hp (k:=k) (by omega) (hy k (by omega));rw[ZbV (y:=(((k+1:Nat):Int),(ZaQ t u s r k).Port,(ZaQ t u s r k).Early,(ZaQ t u s r k).Late,(ZaQ t u s r k).Open,(ZaQ t u s r k).Long,G (k+1))) hst];exact ih N (k+1) (by omega) (by omega) (by omega)
 have:=key N r.length N 0 (by omega) (by omega) (by omega);rw[show((0:Nat):Int)=0 from rfl]at this;have e:(ZaH (λx:Int×Int×Int×Int×Int×Int×σ=>ZbF N y s t u r x.1 x.2.1 x.2.2.1 x.2.2.2.1 x.2.2.2.2.1 x.2.2.2.2.2.1 x.2.2.2.2.2.2) N (0,0,0,0,0,0,G 0))=some (.inl (G r.length)):=this;rw[e];rfl
theorem ZlK (k:Int)(hN:200<=N):Zh5 N t u s k=some (if Zeo t then(if ZdR u then(if Zbq t s then(if s.Class=7/\0<=k/\k<s.Routes.length then 0 else 2)else 321)else 320)else 260):=by
 unfold Zh5;rw[Zgl (by omega),Z9];cases hT:Zeo t with
 |false=>rfl
 |true=>
  simp only[Zak,Zaf,Zg,Zah];rw[Zge,Z9];cases hU:ZdR u with
  |false=>rfl
  |true=>
   simp only[Zak,Zaf,Zg,Zah];rw[ZjG (Zbe.1 hT) s hN,Z9];cases hS:Zbq t s with
   |false=>rfl
   |true=>
    rw[Zai (by simp:¬(!true)=true),Zaj (rfl:true=true)];have hl:1<=s.Routes.length/\s.Routes.length<=2:=by
     simp only[Zbq,lenB,Ze,Zag]at hS;exact hS.2.2.1
    rw[ZaA (by omega) (by omega),Zc2];have hb:inB k 0 ((s.Routes.length:Int)-1)=decide (0<=k/\k<(s.Routes.length:Int)):=by
     rw[Zf];simp only[inB,Ze,Zag];omega
    rw[hb];by_cases hc:s.Class=7
    ·have h7:(s.Class !=7)=false:=by simp[hc]
     rw[h7];by_cases hk:0<=k/\k<(s.Routes.length:Int)
     ·simp only[decide_eq_true hk,hc,hk,and_self,Zak];rfl
     simp only[decide_eq_false hk,hc,hk,and_false,Zah];rfl
    have h7:(s.Class !=7)=true:=by simp[hc]
    rw[h7];simp only[hc,false_and,Zah,Zak];rfl
def ZeP (s:Zam)(k:Int):List Int:=s.Routes.getD k.toNat []
theorem Zdf (h:Zbq t s=true):Zkj s:=by
 simp only[Zbq,ZtZ,inB,Ze,Zag]at h;exact h.1.2.2.2.2.1
theorem ZkQ (h:Zbq t s=true):(1<=s.Routes.length/\s.Routes.length<=2)/\s.Routes.all (ZgD t s)=true:=by
 simp only[Zbq,lenB,Ze,Zag]at h;exact⟨h.2.2.1,h.2.2.2.1⟩
theorem Zsv (h:Zbq t s=true){k:Int}(h0:0<=k)(hk:k<s.Routes.length):idx s.Routes k=some (ZeP s k)/\ZbB t (ZeP s k)=true:=by
 refine⟨ZbL [] h0 hk,(Zh9 (ZkQ h).2 (k:=k.toNat) (by omega)).1⟩
theorem Zjp (hT:Zeo t=true)(hU:ZdR u=true)(hS:Zbq t s=true){k:Int}(hc:s.Class=7)(h0:0<=k)(hk:k<s.Routes.length)(hN:200<=N):
  ZgO N t u s k=some ((List.range (ZeP s k).length).map (ZaQ t u s (ZeP s k)),0):=by
 obtain⟨e1,e2⟩:=Zsv hS h0 hk;have h8:=(Zb1 e2).2.1;unfold ZgO;rw[ZlK k hN,hT,hU,hS,Zaj rfl,Zaj rfl,Zaj rfl,Zaj ⟨hc,h0,hk⟩,Z9,Zai (by decide)];show(Zdm N _ s k t u []).bind _=_;have:=Zut (N:=N) (Zbe.1 hT) (ZbT hU) (Zdf hS) e2 (y:=λ(s:(List ZaP)) (x12:ZaP)=>ZdP (λv:(List ZaP)=>Zcw N v x12) s) (λj=>(List.range j).map (ZaQ t u s (ZeP s k))) (λj hj=>by
  show ZdP (λv=>Zcw N v (ZaQ t u s (ZeP s k) j)) _=_;unfold ZdP Zcw;simp only;rw[ZhK (by simp;omega) (by omega),Z2,ZU];rfl) e1 hN
 simp only[List.range_zero,ZW]at this;rw[this];rfl
theorem ZnE (hT:Zeo t=true)(hU:ZdR u=true)(hS:Zbq t s=true){k:Int}(hc:s.Class=7)(h0:0<=k)(hk:k<s.Routes.length)(hN:200<=N):
  Ziy N t u s k=some (Zbm t u (ZaQ t u s (ZeP s k) ((ZeP s k).length-1)),0):=by
 obtain⟨e1,e2⟩:=Zsv hS h0 hk;obtain⟨h1,h8,hp⟩:=Zb1 e2;have g:=Zbe.1 hT;have hL:t.Links.length<=1000:=by have:=g.l24;omega
 unfold Ziy;rw[ZlK k hN,hT,hU,hS,Zaj rfl,Zaj rfl,Zaj rfl,Zaj ⟨hc,h0,hk⟩,Z9,Zai (by decide)];show(Zdm N _ s k t u 0).bind _=_;have:=Zut (N:=N) g (ZbT hU) (Zdf hS) e2 (y:=λ(s:Int) (x21:ZaP)=>ZdP (λv:Int=>Zcv N t u v x21) s) (λj=>if j=0 then 0 else Zbm t u (ZaQ t u s (ZeP s k) (j-1))) (λj hj=>by
  show ZdP (λv=>Zcv N t u v (ZaQ t u s (ZeP s k) j)) _=_;unfold ZdP Zcv;have hb:=ZgF g (ZbT hU) (Zdf hS) hp j hj;obtain⟨o1,o2,o3⟩:=hb.told g (ZbT hU);obtain⟨_,_,d1,d2⟩:=ZgK g hb.port;have l1:=hb.long1;have l2:=hb.long2;have l3:=hb.op1;have l4:=hb.op2;have q:=(ZbT hU).p1;have q':=(ZbT hU).p2;simp only;rw[Znq hL hb.port,Z9,ZaA (x:=(ZaQ t u s (ZeP s k) j).Open+(ZaQ t u s (ZeP s k) j).Long) (by omega) (by omega),ZaA (x:=(ZaQ t u s (ZeP s k) j).Open+(ZaQ t u s (ZeP s k) j).Long+_) (by omega) (by omega)];rw[show w64 ((ZaQ t u s (ZeP s k) j).Open+(ZaQ t u s (ZeP s k) j).Long+(plk t (ZaQ t u s (ZeP s k) j).Port).Delay+u.Proc)=Zbm t u (ZaQ t u s (ZeP s k) j)from ZaA (by omega) (by omega)];rw[Zai (Nat.succ_ne_zero j)];rfl) e1 hN
 rw[Zaj rfl]at this;rw[this,Z9,Zai (by omega)]
def dS:Zam:=⟨0,0,0,0,0,0,⟨0,0⟩,0,[]⟩
def idAt (l:List Zam)(k:Nat):Int:=(l.getD k dS).Id
def ZrM (l:List Zam)(k:Nat):Bool:=!((List.range k).any λj=>idAt l j==idAt l k)
def allR (t:Zan)(l:List Zam):Int:=if Zeo t then(if l.length<=12 then(if l.all (Zbq t)then(if allB l.length (ZrM l)then 0 else 322)else 321)else 3)else 260
theorem Zht (l:List Zam)(hN:200<=N):ZdV N t l=some (allR t l):=by
 unfold ZdV allR;rw[Zgl (by omega),Z9];cases hT:Zeo t with
 |false=>rfl
 |true=>
  have g:=Zbe.1 hT;simp only[Zak,Zaf,Zg,Zah];by_cases h12:l.length<=12
  ·rw[Zai (by simp;omega),Zaj h12];have:=Za7 (n:=l.length) (p:=λk=>Zbq t (l.getD k dS)) (body:=λx:Int=>ZdQ N t l x) (bad:=.inr 321) (fin:=.inl ()) (λk hk=>by
    unfold ZdQ;rw[Zaj (by simp;omega),Zbj hk,Z9,Zbp hk,ZjG g _ hN,Z9,ZaB (by omega)];cases Zbq t l[k]<;>rfl) (by unfold ZdQ;rw[Zai (by simp)]) (N:=N) (by omega)
   rw[this,Zmn l dS (Zbq t)];cases l.all (Zbq t)with
   |false=>rfl
   |true=>
    simp only[Zak,Z9];have:=(Zja (n:=l.length) (p:=ZrM l) (f:=λ(b:List (Int×Bool)) k=>Zd2 b (idAt l k) true) (body:=λx:Int×(List (Int×Bool))=>ZbA N l x.1 x.2) (bad:=.inr 322) (fin:=λ_=>.inl ())
     (λk b=>∀x,ZhZ b x false=(List.range k).any λj=>idAt l j==x)
     (λk b hk hb=>by
      show ZbA N l (k:Int) b=_;unfold ZbA;rw[Zaj (by simp;omega),Zbj hk,Z9];have hid:l[k].Id=idAt l k:=by unfold idAt;rw[Zbp hk]
      rw[hid,hb,ZaB (by omega)];unfold ZrM;cases (List.range k).any λj=>idAt l j==idAt l k<;>rfl)
     (λk b hk hb _ x=>by
      rw[ZtS,hb,Z2,List.any_append];by_cases e:x=idAt l k
      ·subst e;simp
      have:(idAt l k==x)=false:=by simpa using Ne.symm e
      simp[e,this])
     (λb hb=>by show ZbA N l (l.length:Int) b=_;unfold ZbA;rw[Zai (by simp)]) (N:=N) (by omega) (b0:=[]) (λx=>rfl)).1
    rw[this];cases allB l.length (ZrM l)<;>rfl
  rw[Zaj (by simp;omega),Zai h12]
end
end Go.Sh

namespace Go.Sh
open Go Go.Eng
def PF (p:Int->Bool)(k:Nat):List Int:=((List.range k).map (λ(n:Nat)=>(n:Int))).filter p
theorem ZwL (p:Int->Bool)(k:Nat):PF p (k+1)=if p (k:Int)=true then PF p k++[(k:Int)]else PF p k:=by
 unfold PF;rw[Z2,ZU,List.filter_append];by_cases h:p (k:Int)=true
 ·rw[Zaj h];simp[h]
 rw[Zai h];simp[h]
theorem ZxV (p:Int->Bool)(k:Nat):(PF p k).length<=k:=by
 induction k with
 |zero=>simp[PF]
 |succ k ih=>
  rw[ZwL];split
  ·rw[ZN,ZS];omega
  omega
theorem ZKW {p:Int->Bool}{k:Nat}{x:Int}:x∈PF p k↔0<=x/\x<k/\p x=true:=by
 unfold PF;simp only[List.mem_filter,List.mem_map,ZX];constructor
 ·rintro⟨⟨n,hn,rfl⟩,hp⟩;exact⟨by omega,by omega,hp⟩
 rintro⟨h0,h1,hp⟩;exact⟨⟨x.toNat,by omega,by omega⟩,hp⟩
section
variable {N:Nat} {t:Zan}
theorem Zps {β ρ:Type}{n:Nat}{body:Int×β->Option ((Int×β)⊕ρ)}{fin:β->ρ}(I:Nat->β->Prop)
  (hstep:∀k b,k<n->I k b->∃b',body ((k:Int),b)=some (.inl (((k+1:Nat):Int),b'))/\I (k+1) b') (hend:∀b,I n b->body ((n:Int),b)=some (.inr (fin b))):
  ∀(m N k:Nat) (b:β),n-k=m->k<=n->m<N->I k b->∃b',ZaH body N ((k:Int),b)=some (fin b')/\I n b':=by
 intro m;induction m with
 |zero=>
  intro N k b h1 h2 h3 hb;obtain rfl:k=n:=by omega
  cases N with
  |zero=>omega
  |succ N=>exact⟨b,by rw[Za9 (hend b hb)],hb⟩
 |succ m ih=>
  intro N k b h1 h2 h3 hb;cases N with
  |zero=>omega
  |succ N=>
   obtain⟨b',s1,s2⟩:=hstep k b (by omega) hb;obtain⟨b'',i1,i2⟩:=ih N (k+1) b' (by omega) (by omega) (by omega) s2;exact⟨b'',by rw[ZbV s1,i1],i2⟩
end
end Go.Sh
namespace Go.Sh
open Go Go.Eng
def Byte (v:Int):Prop:=0<=v/\v<=255
theorem Zff {v:Int}(h:InK .u8 v):Byte v:=by
 exact h.u8
section
variable {N:Nat}
theorem Zgx {l:List Int}(hl:∀x∈l,Byte x)(hlen:l.length<=maxLen){i:Int}(h0:0<=i):∃v,ZeR N l i=some v/\Byte v:=by
 unfold ZeR;by_cases h:i<(l.length:Int)
 ·rw[Zaj (by simpa using h),ZqP h0 (by omega),Z9];have hb:=hl _ (List.getElem_mem (show i.toNat<l.length by omega));refine⟨_,rfl,?_⟩;obtain⟨b1,b2⟩:=hb;rw[ZaA (by omega) (by omega)];exact⟨b1,b2⟩
 rw[Zai (by simpa using h)];exact⟨0,rfl,by omega,by omega⟩
theorem ZfS {v b:Int}(hv:0<=v)(hb:0<b):∃m,remI v b=some m/\0<=m/\m<b:=by
 refine⟨v.tmod b,Zdq (by omega),?_⟩;rw[Zn hv];exact⟨Int.emod_nonneg _ (by omega),Int.emod_lt_of_pos _ hb⟩
theorem ZxX {d:Zbz}(hp:∀x∈d.Pers,Byte x)(hpl:d.Pers.length<=maxLen)(hd:∀x∈d.Delays,Byte x)(hdl:d.Delays.length<=maxLen){t:Zan}(hS:(t.Station.length:Int)=t.Nodes)(hL:t.Links.length<=24)(a b:Int)(hN:200<=N):
  ∃l:ZaI,l.A=a/\l.B=b/\(ZeV t a=true->ZeV t b=true->a≠b->(stB t a&&stB t b)=false->Zfb t l=true)∧
   Zbl N d t a b=some (if t.Links.length<24/\Zfb t l=true/\(allB t.Links.length λk=>!Zhf (lk t k) a b)=true then⟨t.Nodes,t.Station,t.Links++[l]⟩else t):=by
 obtain⟨v1,p1,b1⟩:=Zgx (N:=N) hp hpl (i:=(t.Links.length:Int)) (by omega);obtain⟨v2,p2,b2⟩:=Zgx (N:=N) hd hdl (i:=(t.Links.length:Int)) (by omega);obtain⟨b11,b12⟩:=b1;obtain⟨b21,b22⟩:=b2;have e1:Int.tmod v1 20=v1%20:=Zn b11;have e2:Int.tmod v2 50=v2%50:=Zn b21;have e3:w64 (1+Int.tmod v1 20)=1+v1%20:=by rw[e1,ZaA (by omega) (by omega)]
 refine⟨⟨a,b,1+v1%20,v2%50⟩,rfl,rfl,λh1 h2 h3 h4=>?_,?_⟩
 ·simp only[Zfb,h1,h2,h4,Zk,Bool.not_false,Ze,Zag];refine⟨by simp[h3],by omega,by omega,by omega,by omega⟩
 unfold Zbl;rw[p1,Z9,p2,Z9,e3,e2];by_cases h24:t.Links.length<24
 ·have:(((t.Links.length:Nat):Int)==24)=false:=by simp;omega
  rw[this];simp only[Zg,Zah];rw[ZlZ hS,Z9,Z9];cases hlb:Zfb t ⟨a,b,1+v1%20,v2%50⟩with
  |false=>simp
  |true=>
   simp only[Zi,Zg,Zah];have:=Za7 (n:=t.Links.length) (p:=λk=>!Zhf (lk t k) a b) (body:=λx:Int=>Zdu N t a b x) (bad:=.inr t) (fin:=.inl ()) (λk hk=>by
    unfold Zdu;rw[Zaj (by simp;omega),Zs8 hk,Z9,Zk9,Z9,ZaB (by omega)];cases Zhf (lk t k) a b<;>rfl) (by unfold Zdu;rw[Zai (by simp)]) (N:=N) (by omega)
   rw[this];cases hj:allB t.Links.length (λk=>!Zhf (lk t k) a b)with
   |false=>simp
   |true=>
    simp only[Zak,Z9];rw[ZhK (by simp;omega) (by omega)];simp[h24]
 have:(((t.Links.length:Nat):Int)==24)=true:=by simp;omega
 rw[this];simp[h24]
end
structure Mk (b n:Nat) (t:Zan):Prop where
 nodes:t.Nodes=n
 st:t.Station=(List.range n).map (λk=>decide (b<=k))
 l24:t.Links.length<=24
 links:∀k,k<t.Links.length->Zfb t (lk t k)=true/\nojB t k=true
 ends:∀k,k<t.Links.length->(lk t k).B<b
def cntA (t:Zan)(x:Int):Nat:=t.Links.countP (λl=>l.A==x)
section
variable {N b n:Nat} {t:Zan}
theorem Mk.stl (h:Mk b n t):(t.Station.length:Int)=t.Nodes:=by rw[h.st,h.nodes];simp
theorem Mk.stB (h:Mk b n t){x:Int}(h0:0<=x)(hx:x<n):stB t x=decide ((b:Int)<=x):=by
 unfold Go.Sh.stB;rw[h.st,Zy,ZG,List.getElem?_range (by omega)];simp only[Zab,Zaa];rw[Zf,decide_eq_true_iff,decide_eq_true_iff];omega
theorem Mk.node (h:Mk b n t){x:Int}:ZeV t x=true↔0<=x/\x<n:=by rw[Zhd,h.nodes]
theorem Zd3 {l:ZaI}{k:Nat}:lk ⟨t.Nodes,t.Station,t.Links++[l]⟩ k=if k<t.Links.length then lk t k else if k=t.Links.length then l else dL:=by
 unfold lk;simp only[Zy];by_cases h:k<t.Links.length
 ·rw[Zaj h,Zz h]
 rw[Zai h,ZA (by omega)];by_cases e:k=t.Links.length
 ·subst e;simp
 rw[Zai e];have:k-t.Links.length≠0:=by omega
 cases hh:k-t.Links.length with
 |zero=>omega
 |succ m=>simp
theorem Zs9 {l x:ZaI}:Zfb ⟨t.Nodes,t.Station,t.Links++[l]⟩ x=Zfb t x:=rfl
theorem Mk.add (h:Mk b n t){l:ZaI}(h24:t.Links.length<24)(hl:Zfb t l=true)(hj:(allB t.Links.length λk=>!Zhf (lk t k) l.A l.B)=true)(hb:l.B<b):Mk b n ⟨t.Nodes,t.Station,t.Links++[l]⟩ where
 nodes:=h.nodes
 st:=h.st
 l24:=by simp;omega
 links:=λk hk=>by
  simp only[ZN,ZS]at hk;rw[Zs9];unfold nojB;by_cases hlt:k<t.Links.length
  ·obtain⟨q1,q2⟩:=h.links k hlt;rw[Zd3,Zaj hlt];refine⟨q1,?_⟩;rw[←q2];unfold nojB;apply ZkF;intro j hj;rw[Zd3,Zaj (by omega)]
  obtain rfl:k=t.Links.length:=by omega
  rw[Zd3,Zai hlt,Zaj rfl];refine⟨hl,?_⟩;rw[←hj];apply ZkF;intro j hj;rw[Zd3,Zaj hj]
 ends:=λk hk=>by
  simp only[ZN,ZS]at hk;by_cases hlt:k<t.Links.length
  ·rw[Zd3,Zaj hlt];exact h.ends k hlt
  rw[Zd3,Zai hlt,Zaj (by omega)];exact hb
end
end Go.Sh

namespace Go.Sh
open Go Go.Eng
structure DOK (d:Zbz):Prop where
 br:Byte d.Bridges
 sn:Byte d.Stations
 ch:∀x∈d.Chords,Byte x
 ho:∀x∈d.Homes,Byte x
 pe:∀x∈d.Pers,Byte x
 de:∀x∈d.Delays,Byte x
 chl:d.Chords.length<=maxLen
 hol:d.Homes.length<=maxLen
 pel:d.Pers.length<=maxLen
 del:d.Delays.length<=maxLen
theorem DOK.of {d:Zbz}(h:Zlh d):DOK d:=by
 obtain⟨h1,h2,⟨h3,h4⟩,⟨h5,h6⟩,⟨h7,h8⟩,h9,h10⟩:=h;exact⟨Zff h1,Zff h2,λx hx=>Zff (h4 x hx),λx hx=>Zff (h6 x hx),λx hx=>Zff (h8 x hx),λx hx=>Zff (h10 x hx),h3,h5,h7,h9⟩
def brs (d:Zbz):Nat:=1+(d.Bridges%6).toNat
def sts (d:Zbz):Nat:=2+(d.Stations%5).toNat
section
variable {N:Nat} {d:Zbz}
theorem ZpL (h:DOK d):w64 (1+w64 (Int.tmod d.Bridges 6))=((brs d:Nat):Int)/\1<=brs d/\brs d<=6:=by
 obtain⟨b1,b2⟩:=h.br;rw[Zn b1,ZaA (x:=d.Bridges%6) (by omega) (by omega),ZaA (by omega) (by omega)];unfold brs;omega
theorem Zos (h:DOK d):w64 (2+w64 (Int.tmod d.Stations 5))=((sts d:Nat):Int)/\2<=sts d/\sts d<=6:=by
 obtain⟨b1,b2⟩:=h.sn;rw[Zn b1,ZaA (x:=d.Stations%5) (by omega) (by omega),ZaA (by omega) (by omega)];unfold sts;omega
theorem Mk.with (hd:DOK d){b n:Nat}{t:Zan}(h:Mk b n t){x y:Int}(hx:0<=x/\x<n)(hy:0<=y/\y<b)(hbn:b<=n)(hN:200<=N):
  ∃t',Zbl N d t x y=some t'/\Mk b n t'/\(t'=t∨∃l:ZaI,l.A=x/\l.B=y/\t'=⟨t.Nodes,t.Station,t.Links++[l]⟩)∧
   (x≠y->t.Links.length<24->(∀k,k<t.Links.length->Zhf (lk t k) x y=false)->∃l:ZaI,l.A=x/\l.B=y/\t'=⟨t.Nodes,t.Station,t.Links++[l]⟩):=by
 obtain⟨l,hA,hB,hl,e⟩:=ZxX (N:=N) hd.pe hd.pel hd.de hd.del h.stl h.l24 x y hN;refine⟨_,e,?_,?_,?_⟩
 ·split
  ·rename_i hc;exact h.add hc.1 hc.2.1 (by rw[hA,hB];exact hc.2.2) (by rw[hB];exact hy.2)
  exact h
 ·split
  ·exact .inr ⟨l,hA,hB,rfl⟩
  exact .inl rfl
 intro hne h24 hj;refine⟨l,hA,hB,Zaj ⟨h24,hl (h.node.2 hx) (h.node.2 ⟨hy.1,by omega⟩) hne ?_,ZbD.2 λk hk=>by rw[hj k hk];rfl⟩⟩;rw[h.stB hy.1 (by omega),decide_eq_false (by omega),Bool.and_false]
theorem Zmj {t:Zan}{l:ZaI}(x:Int):cntA ⟨t.Nodes,t.Station,t.Links++[l]⟩ x=cntA t x+(if l.A=x then 1 else 0):=by
 unfold cntA;simp only[List.countP_append,List.countP_cons,List.countP_nil];by_cases h:l.A=x<;>simp[h]
structure Row (b n c h:Nat) (t:Zan):Prop extends Mk b n t where
 len:c+h<=t.Links.length
 chain:∀j,j<c->(lk t j).A=j/\(lk t j).B=((j+1:Nat):Int)
 home:∀j,j<h->(lk t (c+j)).A=((b+j:Nat):Int)
theorem Row.keep {b n c h:Nat}{t:Zan}(r:Row b n c h t){l:ZaI}(hm:Mk b n ⟨t.Nodes,t.Station,t.Links++[l]⟩):Row b n c h ⟨t.Nodes,t.Station,t.Links++[l]⟩:=
 {hm with
  len:=by have:=r.len;simp;omega
  chain:=λj hj=>by rw[Zd3,Zaj (by have:=r.len;omega)];exact r.chain j hj
  home:=λj hj=>by rw[Zd3,Zaj (by have:=r.len;omega)];exact r.home j hj}
abbrev tp (x:Int×List Bool×List ZaI):Zan:=⟨x.1,x.2.1,x.2.2⟩
theorem Zx6 (hd:DOK d)(hN:200<=N):ZaH (λx:Int×(List Bool)=>ZbQ N d x.1 x.2) N (0,[])=some ((List.range (brs d+sts d)).map (λk=>decide (brs d<=k))):=by
 obtain⟨b1,b2,b3⟩:=ZpL hd;obtain⟨s1,s2,s3⟩:=Zos hd;have:=ZdM (n:=brs d+sts d) (f:=λ_ k=>(List.range (k+1)).map (λk=>decide (brs d<=k))) (body:=λx:Int×(List Bool)=>ZbQ N d x.1 x.2) (fin:=λb=>b) (λk b=>b=(List.range k).map (λk=>decide (brs d<=k)))
  (λk b hk hb=>by
   show ZbQ N d k b=_;unfold ZbQ;subst hb;rw[b1,s1,ZaA (show -9223372036854775808<=((brs d:Nat):Int)+((sts d:Nat):Int)by omega) (by omega),Zaj (by simp;omega),ZhK (by simp;omega) (by omega),Z9,ZaB (by omega),Z2,ZU];have:decide ((k:Int)≥((brs d:Nat):Int))=decide (brs d<=k):=by rw[Zf,decide_eq_true_iff,decide_eq_true_iff];omega
   rw[this];rfl)
  (λk b hk hb=>rfl)
  (λb hb=>by
   show ZbQ N d ((brs d+sts d:Nat):Int) b=_;unfold ZbQ;rw[b1,s1,ZaA (show -9223372036854775808<=((brs d:Nat):Int)+((sts d:Nat):Int)by omega) (by omega),Zai (by simp)]) (N:=N) (by omega) (b0:=[]) (by simp)
 rw[this.1,this.2]
theorem Zx5 (hd:DOK d)(hN:200<=N){x:Int×List Bool×List ZaI}(hx:Mk (brs d) (brs d+sts d) (tp x))(hx0:x.2.2=[]):
  ∃x',ZaH (λx:Int×Int×(List Bool)×(List ZaI)=>ZbP N d x.1 x.2.1 x.2.2.1 x.2.2.2) N (1,x)=some x'/\Row (brs d) (brs d+sts d) (brs d-1) 0 (tp x')/\x'.2.2.length=brs d-1/\∀s,s<sts d->cntA (tp x') ((brs d+s:Nat):Int)=0:=by
 obtain⟨b1,b2,b3⟩:=ZpL hd;obtain⟨s1,s2,s3⟩:=Zos hd;have:=Zps (n:=brs d) (fin:=λb:Int×List Bool×List ZaI=>b) (body:=λx:Int×Int×(List Bool)×(List ZaI)=>ZbP N d x.1 x.2.1 x.2.2.1 x.2.2.2)
  (λk b=>1<=k/\Row (brs d) (brs d+sts d) (k-1) 0 (tp b)/\b.2.2.length=k-1/\∀s,s<sts d->cntA (tp b) ((brs d+s:Nat):Int)=0)
  (λk b hk ⟨hk1,hr,hl,hc⟩=>by
   have hlen:(tp b).Links.length=k-1:=hl;obtain⟨t',w1,w2,_,w4⟩:=hr.toMk.with (N:=N) hd (x:=(k:Int)-1) (y:=(k:Int)) (by omega) (by omega) (by omega) hN;obtain⟨l,lA,lB,le⟩:=w4 (by omega) (by omega) (λj hj=>by
    have hj':j<k-1:=by omega
    obtain⟨c1,c2⟩:=hr.chain j hj';unfold Zhf;rw[c1,c2,beq_false_of_ne (show((j:Nat):Int)≠(k:Int)-1 by omega),beq_false_of_ne (show((j:Nat):Int)≠(k:Int)by omega)];rfl)
   subst le;refine⟨(b.1,b.2.1,b.2.2++[l]),?_,by omega,?_,?_,?_⟩
   ·show ZbP N d k b.1 b.2.1 b.2.2=_;unfold ZbP;rw[b1,Zaj (by simp;omega),ZaA (show -9223372036854775808<=(k:Int)-1 by omega) (by omega),w1,Z9,ZaB (by omega)]
   ·refine {w2 with len:=by simp;omega,chain:=λj hj=>?_,home:=λj hj=>by omega};show(lk ⟨(tp b).Nodes,(tp b).Station,(tp b).Links++[l]⟩ j).A=_/\_;rw[Zd3];by_cases hj':j<(tp b).Links.length
    ·rw[Zaj hj'];exact hr.chain j (by omega)
    rw[Zai hj',Zaj (by omega),lA,lB];omega
   ·simp;omega
   intro s hs;have:=Zmj (t:=tp b) (l:=l) ((brs d+s:Nat):Int);rw[show cntA (tp (b.1,b.2.1,b.2.2++[l])) _=_ from this,hc s hs,Zai (by omega)])
  (λb ⟨_,hr,_⟩=>by
   show ZbP N d ((brs d:Nat):Int) b.1 b.2.1 b.2.2=_;unfold ZbP;rw[b1,Zai (by simp)]) (brs d-1) N 1 x (by omega) (by omega) (by omega) ⟨by omega,{hx with len:=by simp,chain:=λj hj=>by omega,home:=λj hj=>by omega},by rw[hx0];rfl,λs hs=>by unfold cntA;show List.countP _ x.2.2=0;rw[hx0];rfl⟩
 obtain⟨x',e1,_,e2,e3,e4⟩:=this;exact⟨x',e1,e2,e3,e4⟩
theorem Zx4 (hd:DOK d)(hN:200<=N){x:Int×List Bool×List ZaI}(hx:Row (brs d) (brs d+sts d) (brs d-1) 0 (tp x))(hl:x.2.2.length=brs d-1)(hc:∀s,s<sts d->cntA (tp x) ((brs d+s:Nat):Int)=0):
  ∃x',ZaH (λx:Int×Int×(List Bool)×(List ZaI)=>ZbO N d x.1 x.2.1 x.2.2.1 x.2.2.2) N (0,x)=some x'/\Row (brs d) (brs d+sts d) (brs d-1) (sts d) (tp x')/\∀s,s<sts d->cntA (tp x') ((brs d+s:Nat):Int)=1:=by
 obtain⟨b1,b2,b3⟩:=ZpL hd;obtain⟨s1,s2,s3⟩:=Zos hd;have:=Zps (n:=sts d) (fin:=λb:Int×List Bool×List ZaI=>b) (body:=λx:Int×Int×(List Bool)×(List ZaI)=>ZbO N d x.1 x.2.1 x.2.2.1 x.2.2.2)
  (λk b=>Row (brs d) (brs d+sts d) (brs d-1) k (tp b)/\b.2.2.length=brs d-1+k/\∀s,s<sts d->cntA (tp b) ((brs d+s:Nat):Int)=if s<k then 1 else 0)
  (λk b hk ⟨hr,hl,hc⟩=>by
   have hlen:(tp b).Links.length=brs d-1+k:=hl;obtain⟨v,p1,p2,p3⟩:=Zgx (N:=N) hd.ho hd.hol (i:=2*(k:Int)) (by omega);obtain⟨m,m1,m2,m3⟩:=ZfS (v:=v) (b:=((brs d:Nat):Int)) p2 (by omega);obtain⟨t',w1,w2,_,w4⟩:=hr.toMk.with (N:=N) hd (x:=((brs d:Nat):Int)+(k:Int)) (y:=m) (by omega) (by omega) (by omega) hN;obtain⟨l,lA,lB,le⟩:=w4 (by omega) (by omega) (λj hj=>by
    have hB:=hr.ends j hj;have hA:(lk (tp b) j).A≠((brs d:Nat):Int)+(k:Int):=by
     by_cases hj':j<brs d-1
     ·rw[(hr.chain j hj').1];omega
     have:=hr.home (j-(brs d-1)) (by omega);rw[show brs d-1+(j-(brs d-1))=j by omega]at this;rw[this];omega
    unfold Zhf;rw[beq_false_of_ne hA,beq_false_of_ne (show(lk (tp b) j).B≠((brs d:Nat):Int)+(k:Int)by omega)];simp)
   subst le;refine⟨(b.1,b.2.1,b.2.2++[l]),?_,?_,?_,?_⟩
   ·show ZbO N d k b.1 b.2.1 b.2.2=_;unfold ZbO;rw[b1,s1,Zaj (by simp;omega),ZaA (show -9223372036854775808<=2*(k:Int)by omega) (by omega),p1,Z9,m1,Z9,ZaA (show -9223372036854775808<=((brs d:Nat):Int)+(k:Int)by omega) (by omega),w1,Z9,ZaB (by omega)]
   ·refine {w2 with len:=by simp;omega,chain:=λj hj=>?_,home:=λj hj=>?_}
    ·show(lk ⟨(tp b).Nodes,(tp b).Station,(tp b).Links++[l]⟩ j).A=_/\_;rw[Zd3,Zaj (by omega)];exact hr.chain j hj
    show(lk ⟨(tp b).Nodes,(tp b).Station,(tp b).Links++[l]⟩ (brs d-1+j)).A=_;rw[Zd3];by_cases hj':j<k
    ·rw[Zaj (by omega)];exact hr.home j hj'
    rw[Zai (by omega),Zaj (by omega),lA];omega
   ·simp;omega
   intro s hs;have:=Zmj (t:=tp b) (l:=l) ((brs d+s:Nat):Int);rw[show cntA (tp (b.1,b.2.1,b.2.2++[l])) _=_ from this,hc s hs];by_cases e:s=k
   ·subst e;rw[Zai (by omega),Zaj (by omega),Zaj (by omega)]
   rw[Zai (show ¬l.A=_ by omega)];by_cases h:s<k
   ·rw[Zaj h,Zaj (by omega)]
   rw[Zai h,Zai (by omega)])
  (λb ⟨hr,_⟩=>by
   show ZbO N d ((sts d:Nat):Int) b.1 b.2.1 b.2.2=_;unfold ZbO;rw[s1,Zai (by simp)]) (sts d) N 0 x (by omega) (by omega) (by omega) ⟨hx,by omega,λs hs=>by rw[hc s hs,Zai (by omega)]⟩
 obtain⟨x',e1,e2,e3,e4⟩:=this;exact⟨x',e1,e2,λs hs=>by rw[e4 s hs,Zaj hs]⟩
theorem Zx3 (hd:DOK d)(hN:200<=N){x:Int×List Bool×List ZaI}(hx:Row (brs d) (brs d+sts d) (brs d-1) (sts d) (tp x))(hc:∀s,s<sts d->cntA (tp x) ((brs d+s:Nat):Int)=1):
  ∃x',ZaH (λx:Int×Int×(List Bool)×(List ZaI)=>Zbv N d x.1 x.2.1 x.2.2.1 x.2.2.2) N (0,x)=some x'/\Row (brs d) (brs d+sts d) (brs d-1) (sts d) (tp x')/\∀s,s<sts d->1<=cntA (tp x') ((brs d+s:Nat):Int)/\cntA (tp x') ((brs d+s:Nat):Int)<=2:=by
 obtain⟨b1,b2,b3⟩:=ZpL hd;obtain⟨s1,s2,s3⟩:=Zos hd;have:=Zps (n:=sts d) (fin:=λb:Int×List Bool×List ZaI=>b) (body:=λx:Int×Int×(List Bool)×(List ZaI)=>Zbv N d x.1 x.2.1 x.2.2.1 x.2.2.2)
  (λk b=>Row (brs d) (brs d+sts d) (brs d-1) (sts d) (tp b)/\∀s,s<sts d->1<=cntA (tp b) ((brs d+s:Nat):Int)/\cntA (tp b) ((brs d+s:Nat):Int)<=if s<k then 2 else 1)
  (λk b hk ⟨hr,hc⟩=>by
   obtain⟨v,p1,p2,p3⟩:=Zgx (N:=N) hd.ho hd.hol (i:=2*(k:Int)+1) (by omega);obtain⟨m,m1,m2,m3⟩:=ZfS (v:=v) (b:=((brs d:Nat):Int)) p2 (by omega);have hsame:∀s,s<sts d->1<=cntA (tp b) ((brs d+s:Nat):Int)/\cntA (tp b) ((brs d+s:Nat):Int)<=if s<k+1 then 2 else 1:=λs hs=>by
    obtain⟨q1,q2⟩:=hc s hs;refine⟨q1,?_⟩;split at q2<;>split<;>omega
   have hb:Zbv N d (k:Int) b.1 b.2.1 b.2.2=if(decide (Int.tmod v 3>0))=true then(Zbl N d (tp b) (((brs d:Nat):Int)+(k:Int)) m).bind λr=>some (.inl (((k+1:Nat):Int),r.Nodes,r.Station,r.Links))else some (.inl (((k+1:Nat):Int),b)):=by
    unfold Zbv;rw[b1,s1,Zaj (by simp;omega),ZaA (show -9223372036854775808<=2*(k:Int)by omega) (by omega),ZaA (show -9223372036854775808<=2*(k:Int)+1 by omega) (by omega),p1];simp only[Z9,m1,ZaA (show -9223372036854775808<=((brs d:Nat):Int)+(k:Int)by omega) (by omega),ZaB (show k<1000000 by omega)];split
    ·cases Zbl N d (tp b) (((brs d:Nat):Int)+(k:Int)) m<;>rfl
    rfl
   by_cases hv:Int.tmod v 3>0
   ·obtain⟨t',w1,w2,w3,_⟩:=hr.toMk.with (N:=N) hd (x:=((brs d:Nat):Int)+(k:Int)) (y:=m) (by omega) (by omega) (by omega) hN;refine⟨(t'.Nodes,t'.Station,t'.Links),?_,?_⟩
    ·show Zbv N d (k:Int) b.1 b.2.1 b.2.2=_;rw[hb,Zaj (by simpa using hv),w1];rfl
    rcases w3 with rfl|⟨l,lA,lB,rfl⟩
    ·exact⟨hr,hsame⟩
    refine⟨hr.keep w2,λs hs=>?_⟩;have:=Zmj (t:=tp b) (l:=l) ((brs d+s:Nat):Int);rw[show cntA (tp ((tp b).Nodes,(tp b).Station,(tp b).Links++[l])) _=_ from this];obtain⟨q1,q2⟩:=hc s hs;by_cases e:s=k
    ·subst e;rw[Zaj (by omega),Zaj (by omega)];rw[Zai (by omega)]at q2;omega
    rw[Zai (show ¬l.A=_ by omega)];exact hsame s hs
   refine⟨b,?_,hr,hsame⟩;show Zbv N d (k:Int) b.1 b.2.1 b.2.2=_;rw[hb,Zai (by simpa using hv)])
  (λb ⟨hr,_⟩=>by
   show Zbv N d ((sts d:Nat):Int) b.1 b.2.1 b.2.2=_;unfold Zbv;rw[s1,Zai (by simp)]) (sts d) N 0 x (by omega) (by omega) (by omega) ⟨hx,λs hs=>by rw[hc s hs];split<;>omega⟩
 obtain⟨x',e1,e2,e3⟩:=this;exact⟨x',e1,e2,λs hs=>by have:=e3 s hs;rw[Zaj hs]at this;exact this⟩
theorem Zx2 (hd:DOK d)(hN:200<=N){x:Int×List Bool×List ZaI}(hx:Row (brs d) (brs d+sts d) (brs d-1) (sts d) (tp x))(hc:∀s,s<sts d->1<=cntA (tp x) ((brs d+s:Nat):Int)/\cntA (tp x) ((brs d+s:Nat):Int)<=2):
  ∃x',ZaH (λx:Int×Int×(List Bool)×(List ZaI)=>Zcd N d x.1 x.2.1 x.2.2.1 x.2.2.2) N (0,x)=some x'/\Row (brs d) (brs d+sts d) (brs d-1) (sts d) (tp x')/\∀s,s<sts d->1<=cntA (tp x') ((brs d+s:Nat):Int)/\cntA (tp x') ((brs d+s:Nat):Int)<=2:=by
 obtain⟨b1,b2,b3⟩:=ZpL hd;obtain⟨s1,s2,s3⟩:=Zos hd;refine ZbX (I:=λx:Int×Int×List Bool×List ZaI=>0<=x.1/\Row (brs d) (brs d+sts d) (brs d-1) (sts d) (tp x.2)/\∀s,s<sts d->1<=cntA (tp x.2) ((brs d+s:Nat):Int)/\cntA (tp x.2) ((brs d+s:Nat):Int)<=2) (μ:=λx=>(14-x.1).toNat)
  (Post:=λx'=>Row (brs d) (brs d+sts d) (brs d-1) (sts d) (tp x')/\∀s,s<sts d->1<=cntA (tp x') ((brs d+s:Nat):Int)/\cntA (tp x') ((brs d+s:Nat):Int)<=2) ?_ N (0,x) ⟨by omega,hx,hc⟩ (by simp;omega)
 rintro⟨i,y⟩ ⟨h0,hr,hc⟩;simp only at h0 hr hc;by_cases hi:i<12/\i+1<(d.Chords.length:Int)
 ·left;obtain⟨v1,v2⟩:=hd.ch _ (List.getElem_mem (show i.toNat<d.Chords.length by omega));obtain⟨v3,v4⟩:=hd.ch _ (List.getElem_mem (show(i+1).toNat<d.Chords.length by omega));obtain⟨m,m1,m2,m3⟩:=ZfS (b:=((brs d:Nat):Int)) v1 (by omega);obtain⟨q,q1,q2,q3⟩:=ZfS (b:=((brs d:Nat):Int)) v3 (by omega);obtain⟨t',w1,w2,w3,_⟩:=hr.toMk.with (N:=N) hd (x:=m) (y:=q) (by omega) (by omega) (by omega) hN;refine⟨(i+2,t'.Nodes,t'.Station,t'.Links),?_,⟨by simp only;omega,?_⟩,by simp only;omega⟩
  ·show Zcd N d i y.1 y.2.1 y.2.2=_;unfold Zcd;rw[ZaA (show -9223372036854775808<=i+1 by omega) (by omega),Zaj (by simp;omega),ZqP h0 (by omega),Z9,ZaA (by omega) (by omega),b1,m1,Z9,ZqP (by omega) (by omega),Z9,ZaA (by omega) (by omega),q1,Z9,w1,Z9,ZaA (by omega) (by omega)]
  rcases w3 with rfl|⟨l,lA,lB,rfl⟩
  ·exact⟨hr,hc⟩
  refine⟨hr.keep w2,λs hs=>?_⟩;have:=Zmj (t:=tp y) (l:=l) ((brs d+s:Nat):Int);rw[show cntA (tp ((tp y).Nodes,(tp y).Station,(tp y).Links++[l])) _=_ from this,Zai (show ¬l.A=_ by omega)];exact hc s hs
 right;refine⟨y,?_,hr,hc⟩;show Zcd N d i y.1 y.2.1 y.2.2=_;unfold Zcd;by_cases h12:i<12
 ·rw[ZaA (by omega) (by omega),Zai (by simp;omega)]
 rw[Zai (by simp;omega)]
theorem Zwz (hd:DOK d)(hN:200<=N):∃t,Zdz N d=some t/\Row (brs d) (brs d+sts d) (brs d-1) (sts d) t/\∀s,s<sts d->1<=cntA t ((brs d+s:Nat):Int)/\cntA t ((brs d+s:Nat):Int)<=2:=by
 obtain⟨b1,b2,b3⟩:=ZpL hd;obtain⟨s1,s2,s3⟩:=Zos hd;unfold Zdz;rw[Zx6 hd hN,Z9];have e0:w64 (w64 (1+w64 (Int.tmod d.Bridges 6))+w64 (2+w64 (Int.tmod d.Stations 5)))=((brs d+sts d:Nat):Int):=by rw[b1,s1,ZaA (by omega) (by omega)];omega
 obtain⟨x2,l2,r2,k2,c2⟩:=Zx5 (N:=N) hd hN (x:=(((brs d+sts d:Nat):Int),(List.range (brs d+sts d)).map (λk=>decide (brs d<=k)),[])) ⟨rfl,rfl,by simp,λk hk=>by simp at hk,λk hk=>by simp at hk⟩ rfl;rw[e0,l2,Z9];obtain⟨x3,l3,r3,c3⟩:=Zx4 (N:=N) hd hN r2 k2 c2;rw[show((0:Int),x2.1,x2.2.1,x2.2.2)=(0,x2)from rfl,l3,Z9];have hring:∃x4:Int×List Bool×List ZaI,(if(decide (w64 (1+w64 (Int.tmod d.Bridges 6))>2)&&(Int.tmod d.Bridges 2==0))=true then(Zbl N d ⟨x3.1,x3.2.1,x3.2.2⟩ (w64 (w64 (1+w64 (Int.tmod d.Bridges 6))-1)) 0).bind λr=>some (r.Nodes,r.Station,r.Links)else some (x3.1,x3.2.1,x3.2.2))=some x4∧
   Row (brs d) (brs d+sts d) (brs d-1) (sts d) (tp x4)/\∀s,s<sts d->cntA (tp x4) ((brs d+s:Nat):Int)=1:=by
  by_cases hc:(decide (w64 (1+w64 (Int.tmod d.Bridges 6))>2)&&(Int.tmod d.Bridges 2==0))=true
  ·rw[Zaj hc,b1,ZaA (show -9223372036854775808<=((brs d:Nat):Int)-1 by omega) (by omega)];obtain⟨t',w1,w2,w3,_⟩:=r3.toMk.with (N:=N) hd (x:=((brs d:Nat):Int)-1) (y:=0) (by omega) (by omega) (by omega) hN;refine⟨(t'.Nodes,t'.Station,t'.Links),by rw[w1];rfl,?_⟩;rcases w3 with rfl|⟨l,lA,lB,rfl⟩
   ·exact⟨r3,c3⟩
   refine⟨r3.keep w2,λs hs=>?_⟩;have:=Zmj (t:=tp x3) (l:=l) ((brs d+s:Nat):Int);rw[show cntA (tp ((tp x3).Nodes,(tp x3).Station,(tp x3).Links++[l])) _=_ from this,Zai (show ¬l.A=_ by omega)];exact c3 s hs
  rw[Zai hc];exact⟨x3,rfl,r3,c3⟩
 obtain⟨x4,l4,r4,c4⟩:=hring;rw[l4,Z9];obtain⟨x5,l5,r5,c5⟩:=Zx3 (N:=N) hd hN r4 c4;rw[show((0:Int),x4.1,x4.2.1,x4.2.2)=(0,x4)from rfl,l5,Z9];obtain⟨x6,l6,r6,c6⟩:=Zx2 (N:=N) hd hN r5 c5;rw[show((0:Int),x5.1,x5.2.1,x5.2.2)=(0,x5)from rfl,l6,Z9];exact⟨_,rfl,r6,c6⟩
end
end Go.Sh

namespace Go.Sh
open Go Go.Eng
def cntB (l:List ZaI)(x:Int):Nat:=l.countP (λl=>l.B==x)
theorem Zwt {l:List Int}{i:Nat}{v:Int}{j:Nat}(h:i<l.length):(l.set i v).getD j 0=if j=i then v else l.getD j 0:=by
 rw[Zy,Zy,ZI];by_cases e:j=i
 ·subst e;rw[Zaj rfl,Zaj h,Zaj rfl];rfl
 rw[Zai (Ne.symm e),Zai e]
theorem ZuG {b:List Int}{x:Int}(h0:0<=x)(h:x<b.length){j:Nat}(hv:0<=b.getD x.toNat 0/\b.getD x.toNat 0<=1000):(bump b x).getD j 0=b.getD j 0+(if x=j then 1 else 0):=by
 unfold bump;rw[Zwt (by omega)];by_cases e:j=x.toNat
 ·rw[Zaj e,Zaj (by omega),ZaA (by omega) (by omega),e]
 rw[Zai e,Zai (by omega)];omega
theorem ZqZ {m:Int}:∀(l:List ZaI) (b:List Int) (M:Nat),(b.length:Int)=m->(∀k∈l,(0<=k.A/\k.A<m)/\0<=k.B/\k.B<m)->(∀j:Nat,0<=b.getD j 0/\b.getD j 0<=M)->M+2*l.length<=900->∀j:Nat,
  (l.foldl ZpJ b).getD j 0=b.getD j 0+(l.countP (λk=>k.A==(j:Int)):Nat)+(cntB l j:Nat)
 |[],b,M,_,_,_,_,j=>by simp[cntB]
 |k::l,b,M,hb,hl,hM,hle,j=>by
  obtain⟨⟨a1,a2⟩,a3,a4⟩:=hl k (by simp);have g1:∀j:Nat,(bump b k.A).getD j 0=b.getD j 0+(if k.A=j then 1 else 0):=λj=>ZuG a1 (by omega) (by have:=hM k.A.toNat;simp only[ZO]at hle;omega)
  have g2:∀j:Nat,(ZpJ b k).getD j 0=b.getD j 0+(if k.A=j then 1 else 0)+(if k.B=j then 1 else 0):=λj=>by
   unfold ZpJ;rw[ZuG a3 (by rw[ZuE];omega) (by rw[g1];have:=hM k.B.toNat;simp only[ZO]at hle;split<;>omega),g1]
  rw[Zx,ZqZ l (ZpJ b k) (M+2) (by rw[ZpI];exact hb) (λk hk=>hl k (by simp[hk])) (λj=>by rw[g2];have:=hM j;split<;>split<;>omega) (by simp only[ZO]at hle;omega) j,g2];simp only[cntB,List.countP_cons];by_cases e1:k.A=(j:Int)<;>by_cases e2:k.B=(j:Int)<;>simp[e1,e2]<;>omega
theorem ZqF {l:List Bool}{k:ZaI}{x:Nat}(h:l.getD x false=true):(Zh8 l k).getD x false=true:=by
 unfold Zh8;split
 ·exact Zjd (Zjd h)
 exact h
theorem ZqU {x:Nat}:∀(ks:List ZaI) {l:List Bool},l.getD x false=true->(ks.foldl Zh8 l).getD x false=true
 |[],l,h=>h
 |k::ks,l,h=>ZqU ks (ZqF h)
theorem Zje {l:List Bool}{i:Nat}(h:i<l.length):(l.set i true).getD i false=true:=by
 rw[Zy,ZI,Zaj rfl,Zaj h];rfl
theorem ZqG {l:List Bool}{k:ZaI}(h:l.getD k.A.toNat false=true∨l.getD k.B.toNat false=true)(hA:k.A.toNat<l.length)(hB:k.B.toNat<l.length):(Zh8 l k).getD k.A.toNat false=true/\(Zh8 l k).getD k.B.toNat false=true:=by
 unfold Zh8;rw[Zaj (by rcases h with h|h<;>rw[h]<;>simp)];exact⟨Zjd (Zje hA),Zje (by simpa using hB)⟩
theorem ZoI (ks:List ZaI)(l:List Bool):(ks.foldl Zh8 l).length=l.length:=by
 induction ks generalizing l with
 |nil=>rfl
 |cons k ks ih=>rw[Zx,ih,ZoB]
section
variable {b n c h:Nat} {t:Zan}
theorem ZiG (t:Zan)(l:List Bool):ZjM t l=t.Links.foldl Zh8 l:=Zpy dL t.Links Zh8 l
theorem Row.round (r:Row b n (b-1) (n-b) t)(hb:1<=b)(hbn:b<=n){l:List Bool}(hl:l.length=n)(h0:l.getD 0 false=true):∀x,x<n->(ZjM t l).getD x false=true:=by
 have hnodes:∀k,k<t.Links.length->(0<=(lk t k).A/\(lk t k).A<n)/\0<=(lk t k).B/\(lk t k).B<n:=λk hk=>by
  have:=ZcO (r.links k hk).1;exact⟨r.toMk.node.1 this.1,r.toMk.node.1 this.2.1⟩
 have hlen:=r.len;have step:∀k,k<=t.Links.length->∀x,x<n->(x<b/\x<=k)∨(b<=x/\b-1+(x-b)<k)->((t.Links.take k).foldl Zh8 l).getD x false=true:=by
  intro k;induction k with
  |zero=>
   intro _ x hx hc;rcases hc with⟨h1,h2⟩|⟨h1,h2⟩
   ·obtain rfl:x=0:=by omega
    simpa using h0
   omega
  |succ k ih=>
   intro hk x hx hc;have htk:t.Links.take (k+1)=t.Links.take k++[lk t k]:=by
    have:lk t k=t.Links[k]:=by simp[lk,Zy,show k<t.Links.length by omega]
    rw[this,List.take_append_getElem]
   rw[htk,Zw,Zx,List.foldl_nil];have hfl:((t.Links.take k).foldl Zh8 l).length=n:=by rw[ZoI,hl]
   obtain⟨⟨n1,n2⟩,n3,n4⟩:=hnodes k (by omega);by_cases hold:(x<b/\x<=k)∨(b<=x/\b-1+(x-b)<k)
   ·exact ZqF (ih (by omega) x hx hold)
   rcases hc with⟨h1,h2⟩|⟨h1,h2⟩
   ·have hk1:x=k+1:=by omega
    obtain⟨c1,c2⟩:=r.chain k (by omega);have:=ZqG (k:=lk t k) (l:=(t.Links.take k).foldl Zh8 l) (.inl (by rw[c1];exact ih (by omega) k (by omega) (.inl ⟨by omega,by omega⟩))) (by omega) (by omega);have e:=this.2;rw[c2]at e;rw[hk1];exact e
   have hk1:k=b-1+(x-b):=by omega
   have c1:=r.home (x-b) (by omega);rw[←hk1]at c1;have hB:=r.ends k (by omega);have:=ZqG (k:=lk t k) (l:=(t.Links.take k).foldl Zh8 l) (.inr (ih (by omega) (lk t k).B.toNat (by omega) (.inl ⟨by omega,by omega⟩))) (by omega) (by omega);have e:=this.1;rw[c1]at e
   rwa [show(((b+(x-b):Nat):Int)).toNat=x by omega]at e
 intro x hx;rw[ZiG];have:=step t.Links.length (Nat.le_refl _) x hx (by
  by_cases hxb:x<b
  ·exact .inl ⟨hxb,by omega⟩
  exact .inr ⟨by omega,by omega⟩)
 rwa [Z4]at this
theorem Row.reach (r:Row b n (b-1) (n-b) t)(hb:1<=b)(hbn:b<=n)(hn:1<=n):∀x,x<n->(Zg7 t 0).getD x false=true:=by
 have hnod:t.Nodes.toNat=n:=by rw[r.nodes];omega
 unfold Zg7;rw[hnod];have hall:∀m,1<=m->∀x,x<n->((List.range m).foldl (λl _=>ZjM t l) ((List.replicate n false).set (0:Int).toNat true)).getD x false=true/\((List.range m).foldl (λl _=>ZjM t l) ((List.replicate n false).set (0:Int).toNat true)).length=n:=by
  intro m hm;induction m with
  |zero=>omega
  |succ m ih=>
   intro x hx;rw[Z2,Zw,Zx,List.foldl_nil];by_cases hm0:m=0
   ·subst hm0;refine⟨r.round hb hbn (by simp) (Zje (by simp;omega)) x hx,?_⟩;rw[ZiG,ZoI];simp
   obtain⟨i1,i2⟩:=ih (by omega) x hx;exact⟨by rw[ZiG];exact ZqU _ i1,by rw[ZiG,ZoI];exact i2⟩
 exact λx hx=>(hall n hn x hx).1
theorem Row.good (r:Row b n (b-1) (n-b) t)(hb:1<=b)(hbn:b+1<=n)(hn12:n<=12)(hc:∀s,s<n-b->1<=cntA t ((b+s:Nat):Int)/\cntA t ((b+s:Nat):Int)<=2):Good t:=by
 have hnod:t.Nodes.toNat=n:=by rw[r.nodes];omega
 refine⟨by rw[r.nodes];omega,by rw[r.nodes];omega,r.stl,r.l24,r.links,λx hx=>?_⟩;rw[hnod]at hx;refine⟨r.reach hb (by omega) (by omega) x hx,?_⟩;unfold degB;rw[r.stB (by omega) (by omega)];by_cases hxb:(b:Int)<=(x:Int)
 ·have hd:(degs t).getD x 0=(cntA t (x:Int):Nat)+(cntB t.Links x:Nat):=by
   have e0:degs t=t.Links.foldl ZpJ (List.replicate n 0):=by rw[←hnod];exact Zpy dL t.Links ZpJ _
   rw[e0];have hz:∀j:Nat,(List.replicate n (0:Int)).getD j 0=0:=λj=>by
    rw[Zy,ZH];split<;>rfl
   have:=ZqZ (m:=(n:Int)) t.Links (List.replicate n 0) 0 (by simp) (λk hk=>by
    obtain⟨i,hi,rfl⟩:=List.getElem_of_mem hk;have e:lk t i=t.Links[i]:=by simp[lk,Zy,hi]
    have:=ZcO (r.links i hi).1;rw[e]at this;exact⟨r.toMk.node.1 this.1,r.toMk.node.1 this.2.1⟩) (λj=>by rw[hz];omega) (by have:=r.l24;omega) x
   rw[this,hz];unfold cntA;omega
  have hB0:cntB t.Links x=0:=by
   unfold cntB;rw[List.countP_eq_zero];intro k hk;obtain⟨i,hi,rfl⟩:=List.getElem_of_mem hk;have e:lk t i=t.Links[i]:=by simp[lk,Zy,hi]
   have:=r.ends i hi;rw[e]at this;simp;omega
  have:=hc (x-b) (by omega);rw[show((b+(x-b):Nat):Int)=(x:Int)by omega]at this;rw[decide_eq_true hxb,hd,hB0,decide_eq_true (by omega),decide_eq_true (by omega)];rfl
 rw[decide_eq_false hxb];rfl
theorem Row.port (r:Row b n (b-1) (n-b) t)(hb:1<=b)(hbn:b+1<=n){x:Int}(h0:0<=x)(hx:x<n):∃k,k<t.Links.length/\((lk t k).A=x∨(lk t k).B=x):=by
 have hlen:=r.len;by_cases hxb:x<b
 ·by_cases hx1:x.toNat<b-1
  ·exact⟨x.toNat,by omega,.inl (by rw[(r.chain x.toNat hx1).1];omega)⟩
  by_cases hb1:b=1
  ·
   have h1:=r.home 0 (by omega);have h2:=r.ends (b-1+0) (by omega);have h3:=ZcO (r.links (b-1+0) (by omega)).1;have h4:=r.toMk.node.1 h3.2.1;exact⟨b-1+0,by omega,.inr (by omega)⟩
  have:=r.chain (b-2) (by omega);exact⟨b-2,by omega,.inr (by rw[this.2];omega)⟩
 have:=r.home (x.toNat-b) (by omega);exact⟨b-1+(x.toNat-b),by omega,.inl (by rw[this];omega)⟩
end
theorem ZvA {N:Nat}{d:Zbz}(hd:DOK d)(hN:200<=N):∃t,Zdz N d=some t/\Good t/\∀x:Int,0<=x->x<t.Nodes->∃k,k<t.Links.length/\((lk t k).A=x∨(lk t k).B=x):=by
 obtain⟨_,b2,b3⟩:=ZpL hd;obtain⟨_,s2,s3⟩:=Zos hd;obtain⟨t,e,r,c⟩:=Zwz (N:=N) hd hN;have hr:Row (brs d) (brs d+sts d) (brs d-1) (brs d+sts d-brs d) t:=by rw[show brs d+sts d-brs d=sts d by omega];exact r
 refine⟨t,e,hr.good b2 (by omega) (by omega) (λs hs=>c s (by omega)),λx h0 hx=>?_⟩;rw[r.nodes]at hx;exact hr.port b2 (by omega) h0 hx
end Go.Sh

namespace Go.Sh
open Go Go.Eng
section
variable {N:Nat} {t:Zan}
theorem Zqo (g:Good t)(x:Int)(hN:200<=N):Zg4 N t x=some (PF (λp=>frm t p==x) (2*t.Links.length)):=by
 have h24:=g.l24;unfold Zg4;have:=ZdM (n:=2*t.Links.length) (f:=λb k=>PF (λp=>frm t p==x) (k+1)) (body:=λy:Int×(List Int)=>ZdL N t x y.1 y.2) (fin:=λb=>b) (λk b=>b=PF (λp=>frm t p==x) k)
  (λk b hk hb=>by
   show ZdL N t x k b=_;unfold ZdL;subst hb;have:=ZxV (λp=>frm t p==x) k;have hp:Zcq t (k:Int)=true:=by simp only[Zcq,Ze,Zag];omega
   rw[Zaj (by rw[ZaA (by omega) (by omega)];simp;omega),Zeg (by omega) hp,Z9,ZwL,ZaB (by omega)];cases (frm t (k:Int)==x)with
   |false=>rfl
   |true=>simp only[Zak];rw[ZhK (by rw[ZS];omega) (by omega)];rfl)
  (λk b hk hb=>rfl)
  (λb hb=>by show ZdL N t x ((2*t.Links.length:Nat):Int) b=_;unfold ZdL;rw[Zai (by rw[ZaA (by omega) (by omega)];simp)]) (N:=N) (by omega) (b0:=[]) rfl
 rw[this.1,Z9,this.2]
theorem Zv5 (g:Good t){seen Q:List Int}(hs:seen.length<=100)(hQ:Q.length<=100)(hp:∀p∈Q,Zcq t p=true)(hN:200<=N):
  ZaH (λx:Int×(List Int)=>Zb0 N t seen Q x.1 x.2) N (0,[])=some (Q.filter λp=>!seen.contains (too t p)):=by
 have hL:t.Links.length<=1000:=by have:=g.l24;omega
 have:=ZdM (n:=Q.length) (f:=λb k=>(Q.take (k+1)).filter λp=>!seen.contains (too t p)) (body:=λx:Int×(List Int)=>Zb0 N t seen Q x.1 x.2) (fin:=λb=>b) (λk b=>b=(Q.take k).filter λp=>!seen.contains (too t p))
  (λk b hk hb=>by
   show Zb0 N t seen Q k b=_;unfold Zb0;subst hb;have hlen:((Q.take k).filter λp=>!seen.contains (too t p)).length<=100:=Nat.le_trans (List.length_filter_le _ _) (by simp;omega);have htk:Q.take (k+1)=Q.take k++[Q[k]]:=by rw[List.take_append_getElem]
   rw[Zaj (by simp;omega),Zbj hk,Z9,ZeM hL (hp _ (List.getElem_mem hk)),Z9,ZiX (by omega) (by omega),Z9,htk,List.filter_append,ZaB (by omega)];cases hc:seen.contains (too t Q[k])with
   |true=>
    have:[Q[k]].filter (λp=>!seen.contains (too t p))=[]:=by rw[List.filter_cons_of_neg (by rw[hc];simp)];rfl
    rw[this,List.append_nil];rfl
   |false=>
    have:[Q[k]].filter (λp=>!seen.contains (too t p))=[Q[k]]:=by rw[List.filter_cons_of_pos (by rw[hc];rfl)];rfl
    rw[this];simp only[Bool.not_false,Zak,Z9];rw[ZhK (by rw[ZS];omega) (by omega)];rfl)
  (λk b hk hb=>rfl)
  (λb hb=>by show Zb0 N t seen Q Q.length b=_;unfold Zb0;rw[Zai (by simp)]) (N:=N) (by omega) (b0:=[]) (by simp)
 rw[this.1,this.2,Z4]
theorem Zm9 {r:List Int}{p:Int}{k:Nat}:at0 (r++[p]) k=if k<r.length then at0 r k else if k=r.length then p else 0:=by
 unfold at0;simp only[Zy];by_cases h:k<r.length
 ·rw[Zaj h,Zz h]
 rw[Zai h,ZA (by omega)];by_cases e:k=r.length
 ·subst e;simp
 rw[Zai e];cases hh:k-r.length with
 |zero=>omega
 |succ m=>simp
theorem Zvb {r:List Int}{p m:Int}(hm:r≠[]->frm t (at0 r 0)=m)(h0:r=[]->frm t p=m):Zbi t (r++[p])=(m::r.map (too t))++[too t p]:=by
 unfold Zbi;rw[Zm9,ZU];by_cases h:r=[]
 ·subst h;simp[h0 rfl]
 have:0<r.length:=List.length_pos_iff.2 h;rw[Zaj this,hm h];rfl
theorem Zwe {r:List Int}{p m:Int}(hm:r≠[]->frm t (at0 r 0)=m)(h0:r=[]->frm t p=m)(hok:∀k,k<r.length->okAt t r k=true)(hp:Zcq t p=true)
  (hf:frm t p=(m::r.map (too t)).getD r.length 0) (hst:r≠[]->stB t (frm t p)=false) (hnew:(m::r.map (too t)).contains (too t p)=false):∀k,k<(r++[p]).length->okAt t (r++[p]) k=true:=by
 have hN:=Zvb (t:=t) hm h0;have hlen:(m::r.map (too t)).length=r.length+1:=by simp
 have hnd:∀k,k<=r.length->nd t (r++[p]) k=(m::r.map (too t)).getD k 0:=λk hk=>by
  unfold nd;rw[hN,Zy,Zz (by omega),Zy]
 have hlast:nd t (r++[p]) (r.length+1)=too t p:=by
  unfold nd;rw[hN,Zy,ZA (by omega)];simp
 have hold:r≠[]->Zbi t r=m::r.map (too t):=λh=>by unfold Zbi;rw[hm h]
 intro k hk;simp only[ZN,ZS]at hk;unfold okAt;rw[Zm9];by_cases hlt:k<r.length
 ·have hne:r≠[]:=by intro e;subst e;simp at hlt
  rw[Zaj hlt];have:=hok k hlt;unfold okAt at this;have e1:nd t (r++[p]) k=nd t r k:=by rw[hnd k (by omega)];unfold nd;rw[hold hne]
  have e2:nd t (r++[p]) (k+1)=nd t r (k+1):=by rw[hnd (k+1) (by omega)];unfold nd;rw[hold hne]
  have e3:(Zbi t (r++[p])).take (k+1)=(Zbi t r).take (k+1):=by rw[hN,hold hne,List.take_append_of_le_length (by omega)]
  rw[e1,e2,e3];exact this
 obtain rfl:k=r.length:=by omega
 rw[Zai hlt,Zaj rfl,hlast,hnd _ (Nat.le_refl _),←hf,hp,hN,List.take_append_of_le_length (by omega),Z5 (by omega),hnew];by_cases h:r=[]
 ·subst h;rfl
 rw[hst h];simp
theorem Zu1 (g:Good t)(hdeg:∀x:Int,0<=x->x<t.Nodes->∃k,k<t.Links.length/\((lk t k).A=x∨(lk t k).B=x)){n k:Int}(hn:Byte n)(hk:Byte k)(hN:200<=N):∃r,Zks N t n k=some r/\ZbB t r=true:=by
 have hL:t.Links.length<=1000:=by have:=g.l24;omega
 have h24:=g.l24;have hn2:=g.n2;obtain⟨n0,n1⟩:=hn;obtain⟨k0,k1⟩:=hk;unfold Zks;rw[ZaA (by omega) (by omega)];obtain⟨m,m1,m2,m3⟩:=ZfS (v:=n) (b:=t.Nodes) n0 (by omega);rw[m1,Z9];have key:∃o,ZaH (λx:Int×(List Int)×(List Int)=>Ze7 N t k x.1 x.2.1 x.2.2) N (m,[m],[])=some o/\∃r,(o=.inl r∨o=.inr r)/\ZbB t r=true:=by
  refine ZbX (I:=λx:Int×List Int×List Int=>x.2.2.length<=8/\x.2.1=m::x.2.2.map (too t)/\x.1=x.2.1.getD x.2.2.length 0/\(x.2.2≠[]->frm t (at0 x.2.2 0)=m)/\(∀j,j<x.2.2.length->okAt t x.2.2 j=true)/\ZeV t x.1=true)
   (μ:=λx=>8-x.2.2.length) (Post:=λo:List Int⊕List Int=>∃r,(o=.inl r∨o=.inr r)/\ZbB t r=true) ?_ N (m,[m],[]) ⟨by simp,by simp,by simp,λh=>absurd rfl h,λj hj=>by simp at hj,Zhd.2 ⟨m2,m3⟩⟩ (by simp;omega)
  rintro⟨a,seen,out⟩ ⟨i1,i2,i3,i4,i5,i6⟩;simp only at i1 i2 i3 i4 i5 i6;have hval:out≠[]->ZbB t out=true:=λh=>by
   have:0<out.length:=List.length_pos_iff.2 h;simp only[ZbB,Ze,Zag,ZbD];exact⟨this,i1,i5⟩
  have hcond:(if decide (((List.length out:Nat):Int)<8)=true then if(((List.length out:Nat):Int)==0)=true then some true else(idx t.Station a).bind λe517=>some (!e517)else some false)=some (decide (out.length<8)&&(decide (out.length=0)||!stB t a)):=by
   rw[Zf9 g.st i6];by_cases h8:out.length<8
   ·rw[Zaj (by simp;omega),decide_eq_true h8];by_cases h0:out.length=0
    ·rw[Zaj (by simp[h0]),decide_eq_true h0];rfl
    rw[Zai (by simp;intro e;rw[e]at h0;exact h0 rfl),decide_eq_false h0];rfl
   rw[Zai (by simp;omega),decide_eq_false h8];rfl
  have hseen:seen.length=out.length+1:=by rw[i2];simp
  have hbody:Ze7 N t k a seen out=(some (decide (out.length<8)&&(decide (out.length=0)||!stB t a))).bind λj=>if j=true then(Zg4 N t a).bind λr521=>(ZaH (λx:Int×(List Int)=>Zb0 N t seen r521 x.1 x.2) N (0,[])).bind λo1547=>
    if(((List.length o1547:Nat):Int)==0)=true then some (.inr (.inr out))else(remI (w64 (w64 k+w64 (3*((List.length out:Nat):Int)))) ((List.length o1547:Nat):Int)).bind λm1552=>(idx o1547 m1552).bind λe1553=>(appI 8 out [e1553]).bind λl1558=>(Zef N t e1553).bind λr1559=>(appI 8 seen [r1559]).bind λl1562=>some (.inl (r1559,l1562,l1558))
    else some (.inr (.inl out)):=by
   unfold Ze7;rw[hcond]
  show(∃y,Ze7 N t k a seen out=some (.inl y)/\_/\_)∨_;rw[hbody,Z9];cases hj:(decide (out.length<8)&&(decide (out.length=0)||!stB t a))with
  |false=>
   right;refine⟨_,rfl,out,.inl rfl,hval λe=>?_⟩;subst e;simp at hj
  |true=>
   simp only[Ze,Zag,Zj,Zh]at hj;have hpq:∀p,p∈PF (λp=>frm t p==a) (2*t.Links.length)↔Zcq t p=true/\frm t p=a:=λp=>by
    rw[ZKW,beq_iff_eq];simp only[Zcq,Ze,Zag];constructor
    ·rintro⟨h1,h2,h3⟩;exact⟨⟨h1,by omega⟩,h3⟩
    rintro⟨⟨h1,h2⟩,h3⟩;exact⟨h1,by omega,h3⟩
   have hql:=ZxV (λp=>frm t p==a) (2*t.Links.length);rw[Zaj rfl,Zqo g a hN,Z9,Zv5 g (by omega) (by omega) (λp hp=>((hpq p).1 hp).1) hN,Z9];have hmem:∀p,p∈(PF (λp=>frm t p==a) (2*t.Links.length)).filter (λp=>!seen.contains (too t p))↔Zcq t p=true/\frm t p=a/\seen.contains (too t p)=false:=λp=>by
    rw[List.mem_filter,hpq,Zh,and_assoc]
   have hll:((PF (λp=>frm t p==a) (2*t.Links.length)).filter (λp=>!seen.contains (too t p))).length<=100:=Nat.le_trans (List.length_filter_le _ _) (by omega);generalize (PF (λp=>frm t p==a) (2*t.Links.length)).filter (λp=>!seen.contains (too t p))=next at hmem hll
   by_cases hz:next.length=0
   ·right;rw[Zaj (by simp[hz])];refine⟨_,rfl,out,.inr rfl,hval λe=>?_⟩;subst e;have ham:a=m:=by rw[i3,i2];rfl
    obtain⟨q,hq1,hq2⟩:=hdeg m m2 m3;have hlink:=ZcO (g.links q hq1).1;have hx:∃p,Zcq t p=true/\frm t p=m/\too t p≠m:=by
     rcases hq2 with h|h
     ·refine⟨2*(q:Int),by simp only[Zcq,Ze,Zag];omega,?_,?_⟩
      ·unfold frm plk;rw[show Int.tmod (2*(q:Int)) 2=0 by rw[Zn (by omega)];omega,show(Int.tdiv (2*(q:Int)) 2).toNat=q by rw[Zm (by omega)];omega];simpa[lk]using h
      unfold too plk;rw[show Int.tmod (2*(q:Int)) 2=0 by rw[Zn (by omega)];omega,show(Int.tdiv (2*(q:Int)) 2).toNat=q by rw[Zm (by omega)];omega];have:(lk t q).B≠m:=λe=>hlink.2.2 (by rw[h,e])
      simpa[lk]using this
     refine⟨2*(q:Int)+1,by simp only[Zcq,Ze,Zag];omega,?_,?_⟩
     ·unfold frm plk;rw[show Int.tmod (2*(q:Int)+1) 2=1 by rw[Zn (by omega)];omega,show(Int.tdiv (2*(q:Int)+1) 2).toNat=q by rw[Zm (by omega)];omega];simpa[lk]using h
     unfold too plk;rw[show Int.tmod (2*(q:Int)+1) 2=1 by rw[Zn (by omega)];omega,show(Int.tdiv (2*(q:Int)+1) 2).toNat=q by rw[Zm (by omega)];omega];have:(lk t q).A≠m:=λe=>hlink.2.2 (by rw[h,e])
     simpa[lk]using this
    obtain⟨p,p1,p2,p3⟩:=hx;have:p∈next:=(hmem p).2 ⟨p1,by rw[ham];exact p2,by rw[i2];simp[p3]⟩
    rw[List.eq_nil_of_length_eq_zero hz]at this;cases this
   left;rw[Zai (by simp;intro e;rw[e]at hz;exact hz rfl)];have hv:0<=w64 (w64 k+w64 (3*((List.length out:Nat):Int))):=by
    rw[ZaA (x:=k) (by omega) (by omega),ZaA (x:=3*((List.length out:Nat):Int)) (by omega) (by omega),ZaA (by omega) (by omega)];omega
   obtain⟨q,q1,q2,q3⟩:=ZfS (b:=((List.length next:Nat):Int)) hv (by omega);rw[q1,Z9,ZqP q2 (by omega),Z9];have hin:next[q.toNat]'(by omega)∈next:=List.getElem_mem _
   generalize next[q.toNat]'(by omega)=p at hin
   obtain⟨p1,p2,p3⟩:=(hmem p).1 hin;rw[ZhK (by simp;omega) (by omega),Z9,ZeM hL p1,Z9,ZhK (by simp;omega) (by omega),Z9];have hne:=Zhg g p1;have hlen1:(out++[p]).length=out.length+1:=by simp
   refine⟨_,rfl,⟨?_,?_,?_,?_,?_,hne.2.1⟩,?_⟩
   ·simp only;omega
   ·simp only;rw[i2];simp
   ·simp only;rw[hlen1,Zy,ZA (by omega)];simp[hseen]
   ·simp only;intro _;rw[Zm9];by_cases h0:0<out.length
    ·rw[Zaj h0];exact i4 (List.length_pos_iff.1 h0)
    have:out=[]:=List.eq_nil_of_length_eq_zero (by omega);subst this;rw[Zai (by simp),Zaj (by simp),p2,i3,i2];rfl
   ·simp only;refine Zwe i4 (λh=>?_) i5 p1 ?_ (λh=>?_) ?_
    ·subst h;rw[p2,i3,i2];rfl
    ·rw[p2,i3,i2]
    ·rw[p2];rcases hj.2 with h'|h'
     ·exact absurd (List.eq_nil_of_length_eq_zero h') h
     exact h'
    rw[←i2];exact p3
   simp only;omega
 obtain⟨o,o1,r,o2,o3⟩:=key;rw[o1,Z9];rcases o2 with rfl|rfl
 ·exact⟨r,rfl,o3⟩
 exact⟨r,rfl,o3⟩
end
end Go.Sh

namespace Go.Sh
open Go Go.Eng
theorem Zrb (x:Int):Byte (IntKind.u8.wrap x):=by
 unfold Byte IntKind.wrap;simp only[IntKind.bits,IntKind.signed];have h1:=Int.emod_nonneg x (show(2 ^ 8:Int)≠0 by decide);have h2:=Int.emod_lt_of_pos x (show(0:Int)<2 ^ 8 by decide);simp only[Bool.false_and,Zg,Zah];constructor<;>omega
section
variable {N:Nat} {t:Zan} {s:Zam}
theorem Zuq {r:List Int}(h1:1<=r.length)(h:r.length<=100):idx r (w64 (((List.length r:Nat):Int)-1))=some (at0 r (r.length-1)):=by
 rw[ZaA (by omega) (by omega),show((List.length r:Nat):Int)-1=((r.length-1:Nat):Int)by omega,Zbj (by omega),ZlE (by omega)]
theorem ZrV {r:List Int}(h1:1<=r.length):idx r 0=some (at0 r 0):=by
 rw[show(0:Int)=((0:Nat):Int)from rfl,Zbj (by omega),ZlE (by omega)]
theorem ZyY {r:List Int}(h1:1<=r.length):nd t r r.length=too t (at0 r (r.length-1)):=by
 have:=ZhY (t:=t) (r:=r) (k:=r.length-1) (by omega)
 rwa [show r.length-1+1=r.length by omega]at this
theorem Zqh (g:Good t)(s:Zam)(r:List Int)(hN:200<=N):
  ((Zds N t r).bind λr530=>(if(!r530)then(some true)else((idx r 0).bind λe533=>((Zc8 N t e533).bind λr534=>(if(r534 !=s.Talker)then(some true)else((idx r (w64 (((List.length r:Nat):Int)-1))).bind λe537=>((Zef N t e537).bind λr538=>(some (r538 !=s.Listener)))))))))=some (!ZgD t s r):=by
 have hL:t.Links.length<=1000:=by have:=g.l24;omega
 rw[ZjX g r hN,Z9];unfold ZgD;cases hv:ZbB t r with
 |false=>rfl
 |true=>
  obtain⟨h1,h8,hp⟩:=Zb1 hv;simp only[Zi,Zg,Zah];rw[ZrV h1,Z9,Zeg hL (hp 0 (by omega)),Z9,Zuq h1 (by omega),Z9,ZeM hL (hp _ (by omega)),Z9,ZyW,ZyY h1];by_cases e:frm t (at0 r 0)=s.Talker
  ·have:(frm t (at0 r 0)!=s.Talker)=false:=by simp[e]
   rw[this];simp only[Zg,Zah,e,beq_self_eq_true,Zk];rfl
  have:(frm t (at0 r 0)!=s.Talker)=true:=by simp[e]
  rw[this];simp only[Zak,beq_eq_false_iff_ne.2 e,Bool.false_and,Bool.and_false,Bool.not_false]
theorem ZoY (g:Good t){s:Zam}(hl:s.Routes.length<=2)(hN:200<=N):ZaH (λx:Int=>Zew N t s x) N 0=some (if s.Routes.all (ZgD t s)then .inl ()else .inr false):=by
 have:=Za7 (n:=s.Routes.length) (p:=λk=>ZgD t s (s.Routes.getD k [])) (body:=λx:Int=>Zew N t s x) (bad:=.inr false) (fin:=.inl ()) (λk hk=>by
  unfold Zew;rw[Zaj (by simp;omega),Zbj hk,Z9,Zbp hk,Zqh g s _ hN,Z9,ZaB (by omega)];cases ZgD t s s.Routes[k]<;>rfl) (by unfold Zew;rw[Zai (by simp)]) (N:=N) (by omega)
 rw[this,Zmn s.Routes [] (ZgD t s)]
theorem ZtJ (g:Good t){s:Zam}(hl:s.Routes.length<=2)(hN:200<=N):ZaH (λx:Int=>Zk4 N t s x) N 0=some (if s.Routes.all (ZgD t s)then .inl ()else .inr false):=ZoY g hl hN
theorem Zu7 (g:Good t){s:Zam}(hl:lenB s=true)(hr:s.Routes.all (ZgD t s)=true)(hN:200<=N):
  (if(((List.length s.Routes:Nat):Int)==1)then(some true)else((idx s.Routes 0).bind λe545=>((idx s.Routes 1).bind λe546=>((Zd0 N t e545 e546).bind λr547=>(some r547)))))=some (ZtQ t s):=by
 simp only[lenB,Ze,Zag]at hl;unfold ZtQ;by_cases h2:s.Routes.length<2
 ·rw[Zaj (by simp;omega)];simp[h2]
 rw[Zai (by simp;omega),show(0:Int)=((0:Nat):Int)from rfl,show(1:Int)=((1:Nat):Int)from rfl,Zbj (by omega),Zbj (by omega)];simp only[Z9];have e0:=Zh9 hr (k:=0) (by omega);have e1:=Zh9 hr (k:=1) (by omega);rw[Zbp (by omega)]at e0 e1;rw[Zk5 g e0.1 e1.1 hN,Z9,Zbp (by omega),Zbp (by omega)];simp[h2]
theorem Zk3 (g:Good t)(s:Zam)(hN:200<=N):Zg2 N t s=some (Zbq t s):=by
 have head:((ZcZ N s.Id 1 4095).bind λr1=>(if(!r1)then(some true)else((Zdr N t s.Talker).bind λr4=>(if(!r4)then(some true)else((Zdr N t s.Listener).bind λr7=>(if(!r7)then(some true)else(if(s.Talker==s.Listener)then(some true)else((ZcZ N s.Size 84 1542).bind λr12=>(if(!r12)then(some true)else((ZcZ N s.Deadline 1 1099511627776).bind λr15=>(some (!r15))))))))))))=some (!ZtZ t s):=by
  simp only[ZiQ,ZnV g,Z9];unfold ZtZ;cases inB s.Id 1 4095<;>cases ZpY t s.Talker<;>cases ZpY t s.Listener<;>cases h4:(s.Talker==s.Listener)<;>cases inB s.Size 84 1542<;>cases inB s.Deadline 1 1099511627776<;>simp[bne,h4]
 have rest:∀L:Option (Unit⊕Bool),(s.Routes.length<=2->L=some (if s.Routes.all (ZgD t s)then .inl ()else .inr false))->(if((decide (((List.length s.Routes:Nat):Int)<1))||(decide (((List.length s.Routes:Nat):Int)>2)))then(some false)else(L.bind λo541=>match o541 with
   |(.inl p542)=>(((if(((List.length s.Routes:Nat):Int)==1)then(some true)else((idx s.Routes 0).bind λe545=>((idx s.Routes 1).bind λe546=>((Zd0 N t e545 e546).bind λr547=>(some r547)))))).bind λ(j548:Bool)=>(some j548))
   |(.inr p549)=>(some p549)))=some (lenB s&&(s.Routes.all (ZgD t s)&&ZtQ t s)):=by
  intro L hL;cases hl:lenB s with
  |false=>
   rw[Zaj]
   ·rfl
   rw[Bool.eq_false_iff]at hl;simp only[lenB,ne_eq,Ze,Zag]at hl;simp only[Zj,Zag];omega
  |true=>
   have hl':=hl;simp only[lenB,Ze,Zag]at hl';rw[Zai (by simp only[Zj,Zag];omega),hL hl'.2];cases hr:s.Routes.all (ZgD t s)with
   |false=>rfl
   |true=>
    simp only[Zak,Z9];rw[Zu7 g hl hr hN];rfl
 unfold Zg2;rw[head,Z9];unfold Zbq;cases hh:ZtZ t s with
 |false=>rfl
 |true=>
  simp only[Zi,Zg,Zah,Zk];unfold Zq0;simp only[ZiQ,Z9];by_cases c7:(s.Class==7)=true
  ·rw[Zaj c7,Zaj c7];have r1:=rest _ (λh=>ZoY g h hN);cases inB s.Period 1 240 with
   |false=>rfl
   |true=>cases (s.Bucket.Burst==0)with
    |false=>rfl
    |true=>cases (s.Bucket.Rate==0)with
     |false=>rfl
     |true=>exact r1
  rw[Zai c7,Zai c7];by_cases c6:(s.Class==6)=true
  ·rw[Zaj c6,Zaj c6];have r2:=rest _ (λh=>ZtJ g h hN);unfold bne;cases (s.Period==0)with
   |false=>rfl
   |true=>cases inB s.Bucket.Burst s.Size 1048576 with
    |false=>rfl
    |true=>cases inB s.Bucket.Rate 1 2097152 with
     |false=>rfl
     |true=>exact r2
  rw[Zai c6,Zai c6];rfl
structure SDOK (d:Zcc):Prop where
 node:Byte d.Node
 way:Byte d.Way
 size:Byte d.Size
 period:Byte d.Period
 burst:Byte d.Burst
 rate:0<=d.Rate/\d.Rate<=65535
def ZwM (t:Zan):Prop:=∀x:Int,0<=x->x<t.Nodes->∃k,k<t.Links.length/\((lk t k).A=x∨(lk t k).B=x)
theorem ZjS (g:Good t)(hdeg:ZwM t){n k:Int}(hn:Byte n)(hk:Byte k)(hN:200<=N):∃r,Zib N t n k=some r/\(r=[]∨ZbB t r=true):=by
 have hL:t.Links.length<=1000:=by have:=g.l24;omega
 unfold Zib;obtain⟨o,o1,o2⟩:=ZbX (body:=λx:Int=>ZiR N t n k x) (I:=λx:Int=>∃j:Nat,x=j/\j<=16) (μ:=λx=>16-x.toNat) (Post:=λo:Unit⊕List Int=>o=.inl ()∨∃r,o=.inr r/\ZbB t r=true) (by
  rintro x ⟨j,rfl,hj⟩;simp only[ZiR];by_cases h16:j<16
  ·rw[Zaj (by simp;omega)];obtain⟨r,r1,r2⟩:=Zu1 (N:=N) g hdeg hn (Zrb (k+IntKind.u8.wrap (j:Int))) hN;obtain⟨h1,h8,hp⟩:=Zb1 r2;have p0:=hp 0 (by omega);have pl:=hp (r.length-1) (by omega);rw[r1,Z9,Zaj (by simp;omega),ZjX g r hN,r2,Z9,Zaj rfl,ZrV h1,Z9,Zeg hL p0,Z9,Zf9 g.st (Zhg g p0).1,Z9,Zuq h1 (by omega),Z9,ZeM hL pl,Z9,
    Zf9 g.st (Zhg g pl).2.1,Z9]
   have hne:neL r=some ():=by
    cases r with
    |nil=>simp at h1
    |cons a l=>rfl
   cases hc:(if stB t (frm t (at0 r 0))=true then some (stB t (too t (at0 r (r.length-1))))else some false)with
   |none=>split at hc<;>cases hc
   |some b=>
    rw[Z9];cases b with
    |true=>right;exact⟨_,by rw[Zaj rfl,hne];rfl,.inr ⟨r,rfl,r2⟩⟩
    |false=>left;exact⟨_,by rw[Zai (by decide),ZaB (by omega)],⟨j+1,rfl,by omega⟩,by simp;omega⟩
  right;exact⟨_,by rw[Zai (by simp;omega)],.inl rfl⟩) N 0 ⟨0,rfl,by omega⟩ (by simp;omega)
 rw[o1,Z9];rcases o2 with rfl|⟨r,rfl,hr⟩
 ·exact⟨[],rfl,.inl rfl⟩
 exact⟨r,rfl,.inr hr⟩
theorem ZiU (g:Good t)(hdeg:ZwM t){d:Zcc}(hd:SDOK d)(id:Int)(hN:200<=N):∃x b,ZdS N d t id=some (x,b)/\(b=true->Zbq t x=true/\x.Id=id):=by
 have hL:t.Links.length<=1000:=by have:=g.l24;omega
 have hn2:=g.n2;have hn12:=g.n12;unfold ZdS;rw[ZaA (x:=d.Node) (by have:=hd.node.1;omega) (by have:=hd.node.2;omega)];obtain⟨m,m1,m2,m3⟩:=ZfS (v:=d.Node) (b:=t.Nodes) hd.node.1 (by omega);rw[m1,Z9];obtain⟨o,o1,o2⟩:=ZbX (body:=λx:Int×Int=>ZdY N t x.1 x.2) (I:=λx:Int×Int=>(0<=x.1/\x.1<t.Nodes)/\0<=x.2/\x.2<=t.Nodes) (μ:=λx=>(t.Nodes-x.2).toNat) (Post:=λo:Int=>0<=o/\o<t.Nodes) (by
  rintro⟨a,i⟩ ⟨⟨a0,a1⟩,i0,i1⟩;simp only at a0 a1 i0 i1;simp only[ZdY];by_cases hi:i<t.Nodes
  ·rw[Zaj (by simp;omega),Zf9 g.st (Zhd.2 ⟨a0,a1⟩),Z9,Z9];cases stB t a with
   |true=>right;exact⟨a,by rfl,a0,a1⟩
   |false=>
    left;obtain⟨q,q1,q2,q3⟩:=ZfS (v:=a+1) (b:=t.Nodes) (by omega) (by omega);rw[Zaj (by simp),ZaA (by omega) (by omega),q1,Z9,ZaA (by omega) (by omega)];exact⟨_,rfl,⟨⟨q2,q3⟩,by simp only;omega,by simp only;omega⟩,by simp only;omega⟩
  right;rw[Zai (by simp;omega)];exact⟨a,rfl,a0,a1⟩) N (m,0) ⟨⟨m2,m3⟩,by simp,by simp only;omega⟩ (by simp only;omega)
 rw[o1,Z9];obtain⟨r,r1,r2⟩:=ZjS (N:=N) g hdeg (Zrb o) hd.way hN;rw[r1,Z9];rcases r2 with rfl|r2
 ·exact⟨_,_,rfl,λh=>by cases h⟩
 obtain⟨h1,h8,hp⟩:=Zb1 r2;have hne:¬List.isEmpty r=true:=by cases r with
  |nil=>simp at h1
  |cons a l=>simp
 rw[Zai hne,ZrV h1,Z9,Zeg hL (hp 0 (by omega)),Z9,Zuq h1 (by omega),Z9,ZeM hL (hp _ (by omega)),Z9];have hj:∃j:Int×Int×Int×Int,(if d.Reserved=true then some ((6:Int),(0:Int),w64 (w64 (84+w64 d.Size)+w64 (4*w64 d.Burst)),w64 (1+w64 d.Rate))else(idx [4,6,8,12,16,24,48,10,5,240] (Int.tmod d.Period 10)).bind λe1021=>some (7,e1021,0,0))=some j:=by
  by_cases hr:d.Reserved=true
  ·rw[Zaj hr];exact⟨_,rfl⟩
  rw[Zai hr];have hm:Int.tmod d.Period 10=d.Period%10:=Zn hd.period.1;rw[hm,ZqP (Int.emod_nonneg _ (by decide)) (by have:=Int.emod_lt_of_pos d.Period (show(0:Int)<10 by decide);simp only[ZO,ZQ];omega)];exact⟨_,rfl⟩
 obtain⟨j,j1⟩:=hj;rw[j1,Z9];obtain⟨o',p1,p2⟩:=ZbX (body:=λx:Int×(List (List Int))=>ZdX N d t o r (too t (at0 r (r.length-1))) x.1 x.2) (I:=λx:Int×List (List Int)=>∃k:Nat,x.1=k/\k<=24/\x.2.length<=k+1) (μ:=λx=>24-x.1.toNat) (Post:=λ_:List (List Int)=>True) (by
  rintro⟨a,l⟩ ⟨k,rfl,hk,hl⟩;simp only at hl;simp only[ZdX];cases hc:(if decide ((k:Int)<24)=true then if d.Two=true then some (((List.length l:Nat):Int)==1)else some false else some false)with
  |none=>split at hc;split at hc;all_goals cases hc
  |some b=>
   rw[Z9];cases b with
   |false=>right;exact⟨l,rfl,trivial⟩
   |true=>
    left;have hk24:k<24:=by
     by_cases h:k<24
     ·exact h
     rw[Zai (by simp;omega)]at hc;cases hc
    rw[Zaj rfl];obtain⟨q,q1,q2⟩:=ZjS (N:=N) g hdeg (Zrb o) (Zrb (d.Way+IntKind.u8.wrap (k:Int))) hN;rw[q1,Z9];have fin:∀(X:Option (List (List Int))) (l':List (List Int)),X=some l'->l'.length<=k+1+1->∃y,(X.bind λj2037=>some (Sum.inl (β:=List (List Int)) (w64 ((k:Int)+1),j2037)))=some (Sum.inl (β:=List (List Int)) y)/\(∃k_1:Nat,y.1=(k_1:Int)/\k_1<=24/\y.2.length<=k_1+1)/\24-y.1.toNat<24-(k:Int).toNat:=by
     intro X l' hX hl';subst hX;exact⟨_,by rw[Z9,ZaB (by omega)],⟨k+1,rfl,by omega,hl'⟩,by simp only[Zo];omega⟩
    rcases q2 with rfl|q2
    ·exact fin _ l rfl (by omega)
    obtain⟨w1,w8,wp⟩:=Zb1 q2;have wne:¬List.isEmpty q=true:=by cases q with
     |nil=>simp at w1
     |cons a l=>simp
    rw[Zai wne,Zuq w1 (by omega),Z9,ZeM hL (wp _ (by omega)),Z9,Zk5 g r2 q2 hN,Z9];cases hc2:(if(too t (at0 q (q.length-1))==too t (at0 r (r.length-1)))=true then some (ZpP t r q)else some false)with
    |none=>split at hc2<;>cases hc2
    |some b2=>
     rw[Z9];cases b2 with
     |false=>exact fin _ l rfl (by omega)
     |true=>exact fin _ (l++[q]) (by rw[Zaj rfl,ZhK (by simp;omega) (by omega)];rfl) (by simp;omega)) N (0,[r]) ⟨0,rfl,by omega,by simp⟩ (by simp;omega)
 rw[p1,Z9,Zk3 g _ hN,Z9];exact⟨_,_,rfl,λh=>⟨h,rfl⟩⟩
structure SL (t:Zan) (l:List Zam):Prop where
 len:l.length<=6
 ok:∀k,k<l.length->Zbq t (l.getD k dS)=true/\idAt l k=((k+1:Nat):Int)
theorem SL.snoc {l:List Zam}(h:SL t l)(h6:l.length<6){x:Zam}(hx:Zbq t x=true)(hi:x.Id=((l.length+1:Nat):Int)):SL t (l++[x]):=by
 refine⟨by simp;omega,λk hk=>?_⟩;unfold idAt;by_cases e:k<l.length
 ·have:=h.ok k e;unfold idAt at this;rw[Zbp hk,List.getElem_append_left e,←Zbp e dS];exact this
 have:k=l.length:=by simp at hk;omega
 subst this;rw[Zbp hk];simp only[List.getElem_append_right (Nat.le_refl _),Nat.sub_self,List.getElem_cons_zero];exact⟨hx,hi⟩
theorem ZlT (g:Good t)(hdeg:ZwM t){L:List Zcc}(hL:∀d∈L,SDOK d)(hlen:L.length<=maxLen)(hN:200+L.length<=N):∃l,Zgw N t L=some l/\SL t l:=by
 unfold Zgw;obtain⟨o,o1,o2⟩:=ZbX (body:=λx:Int×(List Zam)=>Zf8 N t L x.1 x.2) (I:=λx:Int×List Zam=>∃k:Nat,x.1=k/\k<=L.length/\SL t x.2) (μ:=λx=>L.length-x.1.toNat) (Post:=SL t) (by
  rintro⟨a,l⟩ ⟨k,rfl,hk,hl⟩;simp only at hl;simp only[Zf8];by_cases hkl:k<L.length
  ·rw[Zaj (by simp;omega),Z9];by_cases h6:l.length<6
   ·rw[Zaj (by simp;omega),Zbj hkl,Z9];obtain⟨x,b,x1,x2⟩:=ZiU (N:=N) g hdeg (hL _ (List.getElem_mem hkl)) (w64 (((List.length l:Nat):Int)+1)) (by omega);rw[x1,Z9];have hw:w64 ((k:Int)+1)=((k+1:Nat):Int):=by
     rw[ZaA (by omega) (by have:L.length<=9223372036854775807:=hlen;omega)];omega
    left;cases b with
    |false=>exact⟨_,by rw[Zai (by simp),Z9,hw],⟨k+1,rfl,by omega,hl⟩,by simp only[Zo];omega⟩
    |true=>
     obtain⟨y1,y2⟩:=x2 rfl;have hs:=hl.snoc h6 y1 (by rw[y2,ZaB (by omega)]);exact⟨_,by rw[Zaj rfl,ZhK (by simp;omega) (by omega),Z9,Z9,hw],⟨k+1,rfl,by omega,hs⟩,by simp only[Zo];omega⟩
   right;exact⟨l,by rw[Zai (by simp;omega)],hl⟩
  right;exact⟨l,by rw[Zai (by simp;omega)];rfl,hl⟩) N (0,[]) ⟨0,rfl,by omega,⟨by simp,λk hk=>by simp at hk⟩⟩ (by simp;omega)
 exact⟨o,by rw[o1];rfl,o2⟩
theorem ZlU {a b c:Int}(ha:Byte a)(hb:Byte b)(hc:Byte c):∃u,ZiS N a b c=some u/\ZdR u=true:=by
 obtain⟨a0,a1⟩:=ha;obtain⟨b0,b1⟩:=hb;obtain⟨c0,c1⟩:=hc;refine⟨_,rfl,?_⟩;have hm:Int.tmod b 40=b%40:=Zn b0;have e1:=Int.emod_nonneg b (show(40:Int)≠0 by decide);have e2:=Int.emod_lt_of_pos b (show(0:Int)<40 by decide);rw[hm,ZaA (x:=a) (by omega) (by omega),ZaA (x:=20*a) (by omega) (by omega),ZaA (x:=100+20*a) (by omega) (by omega),ZaA (x:=b%40) (by omega) (by omega),ZaA (x:=c) (by omega) (by omega)];simp only[ZdR,inB,Ze,Zag];refine⟨⟨?_,?_⟩,⟨?_,?_⟩,⟨?_,?_⟩,?_,?_⟩<;>omega
end
end Go.Sh

namespace Go.Sh
open Go Go.Eng
section
variable {N:Nat} {t:Zan} {u:Zaq} {s:Zam}
theorem Zjc {α:Type}{n k:Nat}(f:Nat->α)(h:k<n):idx ((List.range n).map f) (k:Int)=some (f k):=by
 rw[Zbj (by simpa using h)];simp
theorem Zuu (g:Good t)(hu:Zfp u)(hs:Zkj s){r:List Int}(hp:∀k,k<r.length->Zcq t (at0 r k)=true){k:Nat}(hk:k+1<r.length):
  (ZaQ t u s r (k+1)).Early=Zbm t u (ZaQ t u s r k)-2*u.Slack/\(ZaQ t u s r (k+1)).Late=Zbm t u (ZaQ t u s r k)+2*u.Slack∧
  (ZaQ t u s r (k+1)).Late<=(ZaQ t u s r (k+1)).Open/\(ZaQ t u s r (k+1)).Open<(ZaQ t u s r (k+1)).Late+u.Grid/\(ZaQ t u s r (k+1)).Open%u.Grid=0/\(ZaQ t u s r k).Open<(ZaQ t u s r (k+1)).Open:=by
 have hb:=ZgF g hu hs hp k (by omega);obtain⟨o1,o2,o3⟩:=hb.told g hu;have h0:=hb.op1;have c:=Zr1 hu (x:=Zbm t u (ZaQ t u s r k)+2*u.Slack) (by have:=hu.s1;omega);have:=hu.s1;refine⟨rfl,rfl,c.1,c.2.1,c.2.2,?_⟩;show _<Zm8 u (Zbm t u (ZaQ t u s r k)+2*u.Slack);omega
theorem ZgM (g:Good t)(hu:Zfp u)(hs:Zkj s){r:List Int}(hp:∀k,k<r.length->Zcq t (at0 r k)=true)(h8:r.length<=8){k:Nat}(hk:k<r.length):
  0<=(ZaQ t u s r k).Open/\(ZaQ t u s r k).Open<=20000000/\0<=Zbm t u (ZaQ t u s r k)/\Zbm t u (ZaQ t u s r k)<=20000000:=by
 have hb:=ZgF g hu hs hp k hk;obtain⟨o1,o2,o3⟩:=hb.told g hu;have h0:=hb.op1;have h1:=hb.op2;omega
theorem SDOK.of {d:Zcc}(h:Zh3 d):SDOK d:=by
 obtain⟨_,_,h1,h2,h3,h4,h5,h6⟩:=h;refine⟨Zff h1,Zff h2,Zff h3,Zff h4,Zff h5,?_⟩;simpa[InK,Lit.wf,IntKind.min,IntKind.max,IntKind.signed,IntKind.bits]using h6
end
end Go.Sh
namespace Go.Sh
open Go Go.Eng
section
variable {N:Nat} {t:Zan} {u:Zaq} {s:Zam}
theorem Zwg (l:List Zam)(k:Nat):allB k (λj=>!(idAt l j==idAt l k))=ZrM l k:=by
 unfold ZrM allB;rw[List.not_any_eq_all_not]
theorem ZmQ (l:List Zam)(hN:200<=N):ZfB N t l=some (allR t l):=by
 unfold ZfB allR;rw[Zk7 (by omega),Z9];cases hT:Zeo t with
 |false=>rfl
 |true=>
  have g:=Zbe.1 hT;simp only[Zi,Zak,Zg,Zah];by_cases h12:l.length<=12
  ·rw[Zai (by simp;omega),Zaj h12];have:=Za7 (n:=l.length) (p:=λk=>Zbq t (l.getD k dS)) (body:=λx:Int=>Zee N t l x) (bad:=.inr 321) (fin:=.inl ()) (λk hk=>by
    unfold Zee;rw[Zaj (by simp;omega),Zbj hk,Z9,Zbp hk,Zk3 g _ hN,Z9,ZaB (by omega)];cases Zbq t l[k]<;>rfl) (by unfold Zee;rw[Zai (by simp)]) (N:=N) (by omega)
   rw[this,Zmn l dS (Zbq t)];cases l.all (Zbq t)with
   |false=>rfl
   |true=>
    simp only[Zak,Z9];have:=Za7 (n:=l.length) (p:=ZrM l) (body:=λx:Int=>ZcB N l x) (bad:=.inr 322) (fin:=.inl ()) (λk hk=>by
     show ZcB N l (k:Int)=_;unfold ZcB;rw[Zaj (by simp;omega)];have hin:=Za7 (n:=k) (p:=λj=>!(idAt l j==idAt l k)) (body:=λx:Int=>ZcA N l (k:Int) x) (bad:=.inr 322) (fin:=.inl ()) (λj hj=>by
      show ZcA N l (k:Int) (j:Int)=_;unfold ZcA;rw[Zaj (by simp;omega),Zbj (show j<l.length by omega),Z9,Zbj hk,Z9,ZaB (by omega)];have e1:idAt l j=l[j].Id:=by unfold idAt;rw[Zbp (by omega)]
      have e2:idAt l k=l[k].Id:=by unfold idAt;rw[Zbp hk]
      rw[e1,e2];cases l[j].Id==l[k].Id<;>rfl) (by show ZcA N l (k:Int) (k:Int)=_;unfold ZcA;rw[Zai (by simp)]) (N:=N) (by omega)
     rw[hin,Zwg,ZaB (by omega)];cases ZrM l k<;>rfl) (by show ZcB N l (l.length:Int)=_;unfold ZcB;rw[Zai (by simp)]) (N:=N) (by omega)
    rw[this];cases allB l.length (ZrM l)<;>rfl
  rw[Zaj (by simp;omega),Zai h12]
end
end Go.Sh
namespace Go.Sh
open Go Go.Eng
section
variable {N:Nat} {t:Zan} {u:Zaq} {s:Zam}
theorem Zx1 {G X:Int}(hG:1<=G)(hG2:G<=10000)(hX:0<=X)(hX2:X<=25000000)(hN:30000000<=N){body:Int->Option (Int⊕Int)}(hb:∀x,body x=if decide (x<X)=true then some (.inl (w64 (x+G)))else some (.inr x)):
  ZaH body N 0=some ((X+G-1)/G*G):=by
 obtain⟨o,o1,o2⟩:=ZbX (body:=body) (I:=λx:Int=>0<=x/\x<X+G/\x%G=0) (μ:=λx=>(X+G-x).toNat) (Post:=λr:Int=>X<=r/\r<X+G/\r%G=0) (by
  rintro x ⟨x0,x1,x2⟩;rw[hb];by_cases h:x<X
  ·left;refine⟨_,by rw[Zaj (by simpa using h),ZaA (by omega) (by omega)],⟨by omega,by omega,?_⟩,by omega⟩;rw[Int.add_emod_right];exact x2
  right;exact⟨x,by rw[Zai (by simpa using h)],by omega,x1,x2⟩) N 0 ⟨by omega,by omega,by simp⟩ (by omega)
 rw[o1];obtain⟨p1,p2,p3⟩:=o2
 congr 1
 have e1:=Int.mul_ediv_add_emod (X+G-1) G;have e2:=Int.emod_nonneg (X+G-1) (show G≠0 by omega);have e3:=Int.emod_lt_of_pos (X+G-1) (show 0<G by omega);have e4:=Int.mul_ediv_add_emod o G;rw[Zl]at e1 e4;have hq:o/G=(X+G-1)/G:=by
  generalize (X+G-1)/G=q at*;generalize o/G=p at*;rcases Int.lt_trichotomy p q with h|h|h
  ·have:(p+1)*G<=q*G:=Int.mul_le_mul_of_nonneg_right (by omega) (by omega);rw[Int.add_mul]at this;omega
  ·exact h
  have:(q+1)*G<=p*G:=Int.mul_le_mul_of_nonneg_right (by omega) (by omega);rw[Int.add_mul]at this;omega
 rw[←hq];omega
theorem ZjV (g:Good t)(hu:Zfp u)(hs:Zkj s){r:List Int}(hv:ZbB t r=true)(hN:30000000<=N):Zic N t u s r=some ((List.range r.length).map (ZaQ t u s r)):=by
 obtain⟨h1,h8,hp⟩:=Zb1 hv;have hL:t.Links.length<=1000:=by have:=g.l24;omega
 unfold Zic;rw[ZrV h1,Z9,Z9,Znm hL (hp 0 (by omega)),Z9];have l0:=Zpp g hs (hp 0 (by omega));rw[ZaA (x:=s.Size*(plk t (at0 r 0)).Per) (by omega) (by omega)];have hstep:∀k:Nat,1<=k->k<r.length->ZeQ N t u s r (k:Int) ((List.range k).map (ZaQ t u s r))=some (.inl (((k+1:Nat):Int),(List.range (k+1)).map (ZaQ t u s r))):=by
  intro k k1 hk;obtain⟨j,rfl⟩:∃j,k=j+1:=⟨k-1,by omega⟩;unfold ZeQ;have hb:=ZgF g hu hs hp j (by omega);obtain⟨n1,n2,n3,n4,n5,n6⟩:=Zuu g hu hs hp hk;obtain⟨b1,b2,b3,b4⟩:=ZgM g hu hs hp h8 (show j<r.length by omega);obtain⟨_,_,d1,d2⟩:=ZgK g hb.port;have lo1:=hb.long1;have lo2:=hb.long2;have s1:=hu.s1;have s2:=hu.s2;have g1:=hu.g1;have g2:=hu.g2;have p1:=hu.p1;have p2:=hu.p2;have x3:idx ((List.range (j+1)).map (ZaQ t u s r)) (w64 (((j+1:Nat):Int)-1))=some (ZaQ t u s r j):=by
   rw[ZaA (by omega) (by omega),show((j+1:Nat):Int)-1=(j:Int)by omega,Zjc _ (by omega)]
  rw[Zaj (by simp;omega),x3,Z9,Zlb hL hb.port,Z9,Zbj hk,Z9,Z9,←ZlE hk,Znm hL (hp _ hk),Z9];have lk:=Zpp g hs (hp _ hk);have htold:(ZaQ t u s r j).Open+(ZaQ t u s r j).Long+(plk t (ZaQ t u s r j).Port).Delay+u.Proc=Zbm t u (ZaQ t u s r j):=rfl;have w1:w64 ((ZaQ t u s r j).Open+(ZaQ t u s r j).Long)=(ZaQ t u s r j).Open+(ZaQ t u s r j).Long:=ZaA (by omega) (by omega);have w2:w64 ((ZaQ t u s r j).Open+(ZaQ t u s r j).Long+(plk t (ZaQ t u s r j).Port).Delay)=(ZaQ t u s r j).Open+(ZaQ t u s r j).Long+(plk t (ZaQ t u s r j).Port).Delay:=ZaA (by omega) (by omega);have w3:w64 (Zbm t u (ZaQ t u s r j))=Zbm t u (ZaQ t u s r j):=ZaA (by omega) (by omega);have w4:w64 (2*u.Slack)=2*u.Slack:=ZaA (by omega) (by omega);have w5:w64 (Zbm t u (ZaQ t u s r j)+2*u.Slack)=Zbm t u (ZaQ t u s r j)+2*u.Slack:=ZaA (by omega) (by omega);have w6:w64 (Zbm t u (ZaQ t u s r j)-2*u.Slack)=Zbm t u (ZaQ t u s r j)-2*u.Slack:=ZaA (by omega) (by omega);have hup:=Zx1 (N:=N) (G:=u.Grid) (X:=Zbm t u (ZaQ t u s r j)+2*u.Slack) g1 g2 (by omega) (by omega) hN (body:=λx:Int=>ZjW N u (ZaQ t u s r j) (plk t (ZaQ t u s r j).Port).Delay x) (λx=>by
   simp only[ZjW];rw[w1,w2,htold,w3,w4,w5])
  rw[hup,Z9,w1,w2,htold,w3,w4,w5,w6,ZaA (x:=s.Size*(plk t (at0 r (j+1))).Per) (by omega) (by omega),ZhK (by simp;omega) (by omega),Z9,ZaB (by omega)];have e:[ZaP.mk (at0 r (j+1)) (Zbm t u (ZaQ t u s r j)-2*u.Slack) (Zbm t u (ZaQ t u s r j)+2*u.Slack) ((Zbm t u (ZaQ t u s r j)+2*u.Slack+u.Grid-1)/u.Grid*u.Grid) (s.Size*(plk t (at0 r (j+1))).Per)]=[j+1].map (ZaQ t u s r):=rfl;rw[e,←ZU,←Z2]
 have key:∀(m N' k:Nat),r.length-k=m->1<=k->k<=r.length->m<N'->ZaH (λx:Int×(List ZaP)=>ZeQ N t u s r x.1 x.2) N' ((k:Int),(List.range k).map (ZaQ t u s r))=some ((List.range r.length).map (ZaQ t u s r)):=by
  intro m;induction m with
  |zero=>
   intro N' k e0 e1 e2 e3;obtain rfl:k=r.length:=by omega
   cases N' with
   |zero=>omega
   |succ N'=>
    rw[Za9 (r:=(List.range r.length).map (ZaQ t u s r))];show ZeQ N t u s r ((r.length:Nat):Int) _=_;unfold ZeQ;rw[Zai (by simp)]
  |succ m ih=>
   intro N' k e0 e1 e2 e3;cases N' with
   |zero=>omega
   |succ N'=>
    rw[ZbV (y:=(((k+1:Nat):Int),(List.range (k+1)).map (ZaQ t u s r))) (hstep k e1 (by omega))];exact ih N' (k+1) (by omega) (by omega) (by omega) (by omega)
 have:=key (r.length-1) N 1 rfl (Nat.le_refl _) h1 (by omega);have e:(1,[ZaP.mk (at0 r 0) 0 0 0 (s.Size*(plk t (at0 r 0)).Per)])=(((1:Nat):Int),(List.range 1).map (ZaQ t u s r)):=rfl;rw[e,this];rfl
end
end Go.Sh
namespace Go.Sh
open Go Go.Eng
theorem ZrY {a G q:Int}(hG:0<G)(h1:q*G<=a)(h2:a<q*G+G):a/G=q:=by
 have e1:=Int.mul_ediv_add_emod a G;have e2:=Int.emod_nonneg a (show G≠0 by omega);have e3:=Int.emod_lt_of_pos a hG;rw[Zl]at e1;generalize a/G=p at*;rcases Int.lt_trichotomy p q with h|h|h
 ·have:(p+1)*G<=q*G:=Int.mul_le_mul_of_nonneg_right (by omega) (by omega);rw[Int.add_mul]at this;omega
 ·exact h
 have:(q+1)*G<=p*G:=Int.mul_le_mul_of_nonneg_right (by omega) (by omega);rw[Int.add_mul]at this;omega
theorem Zm6 {a G:Int}(hG:0<G):a/G*G<=a/\a<a/G*G+G:=by
 have e1:=Int.mul_ediv_add_emod a G;have e2:=Int.emod_nonneg a (show G≠0 by omega);have e3:=Int.emod_lt_of_pos a hG;rw[Zl]at e1;omega
theorem ZdD {a G B:Int}(hG:1<=G)(h1: -B<=a)(h2:a<=B)(hB:0<=B): -B<=a/G/\a/G<=B:=by
 constructor
 ·rw[Int.le_ediv_iff_mul_le (by omega)];have:B*1<=B*G:=Int.mul_le_mul_of_nonneg_left hG hB;rw[Int.neg_mul];omega
 have:a/G<B+1:=by
  rw[Int.ediv_lt_iff_lt_mul (by omega)];have:(B+1)*1<=(B+1)*G:=Int.mul_le_mul_of_nonneg_left hG (by omega);omega
 omega
theorem Zi3 (N:Nat){a b:Int}(hb:1<=b)(h1: -100000000<=a)(h2:a<=100000000):Zeh N a b=some (a/b):=by
 unfold Zeh;have e:=Int.mul_tdiv_add_tmod a b;have l1:=Int.lt_tmod_of_pos a (show 0<b by omega);have l2:=Int.tmod_lt_of_pos a (show 0<b by omega);rw[Zl]at e;have hq: -100000000<=a.tdiv b/\a.tdiv b<=100000000:=by
  generalize a.tdiv b=q at*;rcases Int.lt_or_le q 0 with c|c
  ·have:q*b<=q*1:=Int.mul_le_mul_of_nonpos_left (by omega) (by omega);by_cases d:q≤ -1
   ·have h3:(q+1)*b<=(q+1)*1:=Int.mul_le_mul_of_nonpos_left (by omega) (by omega);rw[Int.add_mul]at h3;omega
   omega
  have:q*1<=q*b:=Int.mul_le_mul_of_nonneg_left (by omega) c;by_cases d:1<=q
  ·have h3:(q-1)*1<=(q-1)*b:=Int.mul_le_mul_of_nonneg_left (by omega) (by omega);simp only[Int.sub_mul,Int.one_mul,Int.mul_one]at h3;omega
  omega
 rw[Zi0 (by omega),Zdq (by omega)];have ew:IntKind.i64.wrap (a.tdiv b)=a.tdiv b:=ZaA (by omega) (by omega);rw[ew];simp only[Z9];by_cases c:a.tmod b<0
 ·rw[Zaj (by simpa using c),Z9,ZaA (by omega) (by omega)]
  congr 1
  symm;refine ZrY (by omega) ?_ ?_
  ·rw[Int.sub_mul];omega
  rw[Int.sub_mul];omega
 rw[Zai (by simpa using c),Z9]
 congr 1
 symm;refine ZrY (by omega) ?_ ?_<;>omega
theorem Zk1 (N:Nat){a b:Int}(hb:1<=b)(hb2:b<=1000000)(h1: -100000000<=a)(h2:a<=100000000):ZgY N a b=some (a/b):=by
 unfold ZgY;have m0:=Int.emod_nonneg a (show b≠0 by omega);have m1:=Int.emod_lt_of_pos a (show 0<b by omega);have hs:=ZdD (a:=a) (B:=100000000) hb h1 h2 (by omega);have e:a-a%b=b*(a/b):=by have:=Int.mul_ediv_add_emod a b;omega
 have ed:(b*(a/b)).tdiv b=a/b:=Int.mul_tdiv_cancel_left _ (by omega);have ew:IntKind.i64.wrap (a/b)=a/b:=ZaA (by omega) (by omega);rw[ZjR N (by omega) hb2,Z9,ZaA (by omega) (by omega),e,Zi0 (by omega),ed,ew,Z9]
theorem ZxA {x G:Int}(hG:1<=G): -((-x)/G)=(x+G-1)/G:=by
 symm;obtain⟨a,b⟩:=Zm6 (a:= -x) (G:=G) (by omega);refine ZrY (by omega) ?_ ?_
 ·rw[Int.neg_mul];omega
 rw[Int.neg_mul];omega
section
variable {N:Nat} {t:Zan} {u:Zaq} {s:Zam}
def useH (u:Zaq)(n P:Int)(h:ZaP):Zay:=⟨n,h.Port,(h.Early/u.Grid)%P,(h.Open+h.Long+u.Grid-1)/u.Grid-h.Early/u.Grid⟩
def Zil (t:Zan)(u:Zaq)(s:Zam)(r:List Int):List ZaP:=(List.range r.length).map (ZaQ t u s r)
def Zc1 (t:Zan)(u:Zaq)(n:Int)(s:Zam)(r:List Int):List Zay:=(Zil t u s r).map (useH u n s.Period)
def Zm0 (t:Zan)(u:Zaq)(s:Zam)(r:List Int):Bool:=decide (Zbm t u (ZaQ t u s r (r.length-1))+2*u.Slack>s.Deadline)
structure HN (u:Zaq) (h:ZaP):Prop where
 e1: -2000<=h.Early
 e2:h.Early<=20000000
 o1:0<=h.Open
 o2:h.Open<=20000000
 l1:84<=h.Long
 l2:h.Long<=1542000
 eo:h.Early<=h.Open
theorem ZrS (g:Good t)(hu:Zfp u)(hs:Zkj s){r:List Int}(hv:ZbB t r=true){h:ZaP}(hh:h∈Zil t u s r):HN u h/\Zcq t h.Port=true:=by
 obtain⟨h1,h8,hp⟩:=Zb1 hv;obtain⟨k,hk,rfl⟩:=List.mem_map.1 hh;rw[ZX]at hk;have hb:=ZgF g hu hs hp k hk;obtain⟨b1,b2,b3,b4⟩:=ZgM g hu hs hp h8 hk;have s1:=hu.s1;have s2:=hu.s2;refine⟨?_,hb.port⟩;cases k with
 |zero=>exact⟨by show -2000<=(0:Int);omega,by show(0:Int)<=20000000;omega,b1,b2,hb.long1,hb.long2,by show(0:Int)<=0;omega⟩
 |succ k=>
  obtain⟨n1,n2,n3,n4,n5,n6⟩:=Zuu g hu hs hp hk;obtain⟨c1,c2,c3,c4⟩:=ZgM g hu hs hp h8 (show k<r.length by omega);exact⟨by omega,by omega,b1,b2,hb.long1,hb.long2,by omega⟩
theorem Zzb (hu:Zfp u){h:ZaP}(hn:HN u h){n P:Int}(hP:1<=P)(hP2:P<=1000):∃r2,Zeh N h.Early u.Grid=some (h.Early/u.Grid)/\Zeh N (w64 ((w64 ((w64 (h.Open+h.Long))+u.Grid))-1)) u.Grid=some ((h.Open+h.Long+u.Grid-1)/u.Grid)∧
  Zeh N (h.Early/u.Grid) P=some r2/\Zay.mk n h.Port (w64 (h.Early/u.Grid-(w64 (r2*P)))) (w64 ((h.Open+h.Long+u.Grid-1)/u.Grid-h.Early/u.Grid))=useH u n P h:=by
 obtain⟨e1,e2,o1,o2,l1,l2,_⟩:=hn;have g1:=hu.g1;have g2:=hu.g2;have d1:=ZdD (a:=h.Early) (B:=20000000) g1 (by omega) e2 (by omega);have d2:=ZdD (a:=h.Open+h.Long+u.Grid-1) (B:=22000000) g1 (by omega) (by omega) (by omega);have m0:=Int.emod_nonneg (h.Early/u.Grid) (show P≠0 by omega);have m1:=Int.emod_lt_of_pos (h.Early/u.Grid) (show 0<P by omega);have em:h.Early/u.Grid/P*P=h.Early/u.Grid-h.Early/u.Grid%P:=by have:=Int.mul_ediv_add_emod (h.Early/u.Grid) P;rw[Zl]at this;omega
 refine⟨h.Early/u.Grid/P,Zi3 N g1 (by omega) (by omega),?_,Zi3 N hP (by omega) (by omega),?_⟩
 ·rw[ZaA (x:=h.Open+h.Long) (by omega) (by omega),ZaA (x:=h.Open+h.Long+u.Grid) (by omega) (by omega),ZaA (x:=h.Open+h.Long+u.Grid-1) (by omega) (by omega)];exact Zi3 N g1 (by omega) (by omega)
 unfold useH;rw[em,ZaA (x:=h.Early/u.Grid-h.Early/u.Grid%P) (by omega) (by omega),ZaA (x:=h.Early/u.Grid-(h.Early/u.Grid-h.Early/u.Grid%P)) (by omega) (by omega),ZaA (x:=(h.Open+h.Long+u.Grid-1)/u.Grid-h.Early/u.Grid) (by omega) (by omega)]
 congr 1
 omega
theorem ZsD (hu:Zfp u){h:ZaP}(hn:HN u h){n P:Int}(hP:1<=P)(hP2:P<=1000):ZlO N u n P h=some (useH u n P h):=by
 obtain⟨e1,e2,o1,o2,l1,l2,_⟩:=hn;have g1:=hu.g1;have g2:=hu.g2;have d1:=ZdD (a:=h.Early) (B:=20000000) g1 (by omega) e2 (by omega);have d2:=ZdD (a:=h.Open+h.Long+u.Grid-1) (B:=22000000) g1 (by omega) (by omega) (by omega);have c:=ZxA (x:=h.Open+h.Long) g1;unfold ZlO useH;rw[Zk1 N g1 (by omega) (by omega) (by omega),Z9,ZaA (x:=h.Open+h.Long) (by omega) (by omega),show(0:Int)-(h.Open+h.Long)= -(h.Open+h.Long)by omega,ZaA (x:= -(h.Open+h.Long)) (by omega) (by omega),Zk1 N g1 (by omega) (by omega) (by omega),Z9,ZjR N (by omega) (by omega),Z9];rw[show(0:Int)- -(h.Open+h.Long)/u.Grid=(h.Open+h.Long+u.Grid-1)/u.Grid by omega,ZaA (x:=(h.Open+h.Long+u.Grid-1)/u.Grid) (by omega) (by omega),ZaA (by omega) (by omega)]
structure Ac where
 late:Bool
 P:List Int
 U:List Zay
def ZfQ (t:Zan)(u:Zaq)(a:Ac)(s:Zam):Ac:=
 if s.Class=7 then⟨a.late||s.Routes.any (Zm0 t u s),a.P++[s.Period],a.U++s.Routes.flatMap (Zc1 t u (a.P.length:Int) s)⟩else a
def accA (t:Zan)(u:Zaq)(l:List Zam):Ac:=l.foldl (ZfQ t u) ⟨false,[],[]⟩
structure SS (t:Zan) (s:Zam):Prop where
 str:Zbq t s=true
 cls:s.Class=7
 per1:1<=s.Period
 per2:s.Period<=240
 dl:s.Deadline<=1099511627776
 r1:1<=s.Routes.length
 r2:s.Routes.length<=2
 rt:∀r∈s.Routes,ZbB t r=true
theorem SS.of (h:Zbq t s=true)(hc:s.Class=7):SS t s:=by
 obtain⟨⟨r1,r2⟩,hr⟩:=ZkQ h;have h':=h;simp only[Zbq,ZtZ,inB,Zq0,Ze,Zag]at h';obtain⟨h1,h2,_⟩:=h';rw[Zaj (by simp[hc])]at h2;simp only[inB,Ze,Zag]at h2;refine⟨h,hc,h2.1.1,h2.1.2,h1.2.2.2.2.2.2,r1,r2,λr hm=>?_⟩;obtain⟨k,hk,rfl⟩:=List.getElem_of_mem hm;have:=(Zh9 hr hk).1
 rwa [Zbp hk]at this
theorem Zoi (g:Good t){r:List Int}(hv:ZbB t r=true)(n:Int):(Zc1 t u n s r).length<=8:=by
 have:=(Zb1 hv).2.1;simp[Zc1,Zil];omega
theorem ZcP {α:Type}{l:List α}{k:Nat}(hk:k<l.length):l.take (k+1)=l.take k++[l[k]]:=by
 rw[Z6 hk]
theorem Zmf {α β:Type}(f:α->List β){B:Nat}:∀(l:List α),(∀x∈l,(f x).length<=B)->(l.flatMap f).length<=B*l.length
 |[],_=>by simp
 |x::l,h=>by
  have h1:=Zmf f l λy hy=>h y (by simp[hy])
  have h2:=h x (by simp);simp only[List.flatMap_cons,ZN,ZO];rw[Nat.mul_add];omega
theorem ZmI (k:Nat)(hk:k<s.Routes.length):ZeP s (k:Int)=s.Routes[k]:=by
 unfold ZeP;rw[Zo,Zbp hk]
theorem ZmS (hT:Zeo t=true)(hU:ZdR u=true)(h:SS t s){b:Bool}{P:List Int}{U:List Zay}(hP:P.length<=100)(hUl:U.length<=900)(hN:2000<=N):
  ZfJ N ⟨⟨P,U⟩,b⟩ t u s=some (0,⟨⟨(ZfQ t u ⟨b,P,U⟩ s).P,(ZfQ t u ⟨b,P,U⟩ s).U⟩,(ZfQ t u ⟨b,P,U⟩ s).late⟩):=by
 have g:=Zbe.1 hT;have hu:=ZbT hU;have hs:=Zdf h.str;have p1:=h.per1;have p2:=h.per2;have r1:=h.r1;have r2:=h.r2;unfold ZfJ ZfQ;rw[Zaj h.cls];simp only;rw[Zim (by omega) (by omega),Z9];obtain⟨o,ho,eo⟩:=ZbX (body:=λx:Int×Bool×(List Zay)=>Zfl N ⟨⟨P,U⟩,b⟩ t u s (P++[s.Period]) x.1 x.2.1 x.2.2)
  (λx=>∃k:Nat,x.1=k/\k<=s.Routes.length/\x.2.1=(b||(s.Routes.take k).any (Zm0 t u s))/\x.2.2=U++(s.Routes.take k).flatMap (Zc1 t u (P.length:Int) s)) (λx=>(s.Routes.length-x.1).toNat)
  (λr=>r=.inl (b||s.Routes.any (Zm0 t u s),U++s.Routes.flatMap (Zc1 t u (P.length:Int) s))) (λx hx=>by
   obtain⟨i,b',U'⟩:=x;obtain⟨k,k1,k2,k3,k4⟩:=hx;simp only at k1 k3 k4;subst k1 k3 k4;simp only[Zfl];by_cases c:k<s.Routes.length
   ·left;have hv:=h.rt _ (List.getElem_mem c);obtain⟨v1,v8,vp⟩:=Zb1 hv;refine⟨(((k+1:Nat):Int),b||(s.Routes.take (k+1)).any (Zm0 t u s),U++(s.Routes.take (k+1)).flatMap (Zc1 t u (P.length:Int) s)),?_,⟨k+1,rfl,by omega,rfl,rfl⟩,by simp;omega⟩;rw[Zaj (by simpa using c),Zjp hT hU h.str h.cls (by omega) (by omega) (by omega),Z9,ZmI k c,ZnE hT hU h.str h.cls (by omega) (by omega) (by omega),ZmI k c];simp only[Zaf,Zg,Zah,Z9];have hfl:((s.Routes.take k).flatMap (Zc1 t u (P.length:Int) s)).length<=8*(s.Routes.take k).length:=Zmf _ _ λr hr=>Zoi g (h.rt r (List.mem_of_mem_take hr)) _
    have htl:(s.Routes.take k).length<=2:=by simp;omega
    obtain⟨q,hq,eq⟩:=ZbX (body:=λx:Int×(List Zay)=>Zfk N ⟨⟨P,U⟩,b⟩ u s ((List.range s.Routes[k].length).map (ZaQ t u s s.Routes[k]),0) x.1 x.2)
     (λx=>∃j:Nat,x.1=j/\j<=s.Routes[k].length/\x.2=U++(s.Routes.take k).flatMap (Zc1 t u (P.length:Int) s)++(Zc1 t u (P.length:Int) s s.Routes[k]).take j) (λx=>(s.Routes[k].length-x.1).toNat)
     (λr=>r=U++(s.Routes.take k).flatMap (Zc1 t u (P.length:Int) s)++Zc1 t u (P.length:Int) s s.Routes[k]) (λx hx=>by
      obtain⟨i,U'⟩:=x;obtain⟨j,j1,j2,j3⟩:=hx;simp only at j1 j3;subst j1 j3;simp only[Zfk];have hlen:(Zc1 t u (P.length:Int) s s.Routes[k]).length=s.Routes[k].length:=by simp[Zc1,Zil]
      by_cases d:j<s.Routes[k].length
      ·left;refine⟨(((j+1:Nat):Int),U++(s.Routes.take k).flatMap (Zc1 t u (P.length:Int) s)++(Zc1 t u (P.length:Int) s s.Routes[k]).take (j+1)),?_,⟨j+1,rfl,by omega,rfl⟩,by simp;omega⟩;have hmem:ZaQ t u s s.Routes[k] j∈Zil t u s s.Routes[k]:=List.mem_map.2 ⟨j,List.mem_range.2 d,rfl⟩;obtain⟨x2,f1,f2,f3,f4⟩:=Zzb (N:=N) hu (ZrS g hu hs hv hmem).1 (n:=(P.length:Int)) p1 (by omega);have eh:(Zc1 t u (P.length:Int) s s.Routes[k])[j]'(by omega)=useH u (P.length:Int) s.Period (ZaQ t u s s.Routes[k] j):=by simp[Zc1,Zil]
       rw[Zaj (by simpa using d),Zjc _ d,Z9,f1,Z9,f2,Z9,f3,Z9,f4,Zim (by simp only[ZN,ZT];omega) (by omega),Z9,ZaB (by omega),ZcP (by omega),eh];simp only[Zr]
      right;obtain rfl:j=s.Routes[k].length:=by omega
      refine⟨U++(s.Routes.take k).flatMap (Zc1 t u (P.length:Int) s)++Zc1 t u (P.length:Int) s s.Routes[k],?_,rfl⟩;rw[Zai (by simp),Z5 (Nat.le_of_eq hlen)]) N (0,U++(s.Routes.take k).flatMap (Zc1 t u (P.length:Int) s)) ⟨0,rfl,by omega,by simp⟩ (by simp;omega)
    rw[hq,Z9,eq];have hj:s.Routes[k].length-1<s.Routes[k].length:=by omega
    obtain⟨b1,b2,b3,b4⟩:=ZgM g hu hs vp v8 hj;have s1:=hu.s1;have s2:=hu.s2;rw[ZaA (x:=2*u.Slack) (by omega) (by omega),ZaA (x:=Zbm t u (ZaQ t u s s.Routes[k] (s.Routes[k].length-1))+2*u.Slack) (by omega) (by omega),ZaB (by omega),ZcP c,List.any_append,List.flatMap_append];have el:decide (Zbm t u (ZaQ t u s s.Routes[k] (s.Routes[k].length-1))+2*u.Slack>s.Deadline)=Zm0 t u s s.Routes[k]:=rfl;rw[el];simp only[List.any_cons,List.any_nil,Bool.or_false,List.flatMap_cons,List.flatMap_nil,List.append_nil,Zr];cases b<;>cases (s.Routes.take k).any (Zm0 t u s)<;>simp
   right;obtain rfl:k=s.Routes.length:=by omega
   exact⟨_,by rw[Zai (by simp)],by simp⟩) N (0,b,U) ⟨0,rfl,by omega,by simp,by simp⟩ (by simp;omega)
 rw[ho,Z9,eo]
end
end Go.Sh

