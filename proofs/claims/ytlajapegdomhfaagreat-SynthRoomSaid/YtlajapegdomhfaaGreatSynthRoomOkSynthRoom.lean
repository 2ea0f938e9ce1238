/-Part of the proof. -/
import Derived.Test.YtlajapegdomhfaaGreatSynthRoomOk2
set_option linter.all false
namespace Go.Sh
open Go Go.Eng Go.Proofs
set_option maxRecDepth 100000
set_option maxHeartbeats 4000000
attribute [local irreducible] vc ev Zb8 opsD opsF ZkX upd updH updO aU opsU ap apH kx kb kbH kv setH kB
theorem law28_SynthRoom_ok {N a0_ a1_}:PF Tryz.prog 6 [.agg (ZnP a0_),.p (.int .u8 a1_)] (Zhs N a0_ a1_) bv:=pc chk6 (λr h=>by
 exact sq (r0<|sq (sq<|re<|ca 0 ZqF h (λr1 h=>ef<|it h (λhc2 h=>sq (r0<|rt<|fz h)) (λhc2 h=>sk (kq<|sq (re<|ca 1 Zmo h (λr3 h=>ef<|sq (re<|ca 4 ZfF h (λr4 h=>ef<|sq (sq<|r0<|it h (λhc5 h=>sq (re<|ln 1 ZaU r4.1<|ef<|rt<|fz h)) (λhc5 h=>sk (kq<|sq (r0<|sq (sq<|r0<|bk (lp (xs (x0 0) (xr i6.res bv)) (λx=>[(11,iv x.1),(12,iv x.2)]) (λ_=>[]) h (λ⟨i7,i8⟩ o h=>sq (sq<|re<|ln 2 ZaD r3.2.2.1<|ef<|it h (λak h=>sk (kq<|sq (bk<|sq (sq<|re<|ix 2 ZaD h (λaG ai h=>ld 1 ZaD ai<|ef<|it h (λaj h=>kq (xq<|tx (bx<|kq (r0<|wb h)))) (λaj h=>sk (kq<|sq (sq<|r0<|bk (lp (xs (x0 2) (xr i6.res bv)) (λx=>[(13,iv x)]) (λ_=>[]) h (λaE o h=>sq (sq<|re<|ix 3 ZaD h (λaq ab h=>ld 1 ZaD ab<|ln 0 (eSl 1 eI64) aq.Routes<|ef<|it h (λaf h=>sk (kq<|sq (bk<|sq (qe<|ix 4 ZaD h (λaD aa h=>ld 0 ZaD aa<|ca 1 ZhX h (λag h=>ef<|sq (sq<|r0<|it h (λae h=>sq (r0<|rt<|wr h)) (λae h=>sk (kq<|sq (re<|ln 1 Zbd ag.1<|ef<|bk (lp (xs (x0 4) (xr i6.res bv)) (λx=>[(84,iv x)]) (λ_=>[]) h (λaz o h=>sq (r0<|sq (it h (λad h=>sk (kq<|sq (bk<|sq (re<|ix 0 Zbd h (λa0 a9 h=>ld 0 Zbd a9<|ef<|sq (qe<|ix 2 eI64 h (λam a8 h=>ld 0 eI64 a8<|ix 4 ZaD h (λal a7 h=>ld 1 ZaD a7<|ef<|sq (qe<|ix 3 ZaU h (λaC a6 h=>ld 0 ZaU a6<|ca 6 Zsn h (λa3 h=>ef<|sq (qe<|ix 3 ZaU h (λaB a5 h=>ld 0 ZaU a5<|ca 4 ZtP h (λa2 h=>ef<|sq (qe<|ix 3 ZaU h (λaA a4 h=>ld 0 ZaU a4<|ca 4 Zsl h (λa1 h=>ef<|sq (rb 6 (λb0_ b1_ b2_ b3_ b4_ b5_=>[(180,bv (b0_||(b1_||(b2_||(if b3_ then(b4_||(b5_&&(decide (a0.Early<a0.Open))))else(b5_&&(decide (a0.Early<a0.Open))))))))]) [(!a3.1),(a3.2 !=0),(a1.2 !=0),(a2.2==0),(decide (a2.1<(w64 ((w64 ((w64 ((w64 (am+(w64 ((w64 (a1_))*al.Period))))*r3.2.1.Grid))+a0.Open))+a0.Long)))),(decide (a1.1>0))] (bb 2 146 be<|bb 3 149 be<|bb 4 153 be<|bb 4 157 (bb 10 167 be<|bb 5 172 be be)<|bs'<|bb 15 172 be be)<|it h (λac h=>sq (r0<|rt<|wr h)) (λac h=>sk (kq<|r0<|wb h)))))))))))))))))))) (λad h=>kq (xq<|we h))))) (ks (ka0 λay h=>bx (kq<|r0<|wb h)) (kr' λax s hq h=>wq h hq))))))))))))) (λaf h=>kq (xq<|we h))))) (ks (ka0 λaw h=>bx (r0<|kq (r0<|wb h))) (kr' λav s hq h=>wq h hq))))))))))) (λak h=>kq (xq<|we h)))) (ks (ka0 λau h=>bx (sq<|r0<|rt<|fz h)) (kr' λar s hq h=>fq hq h)))))))))))))))))
 )
end Go.Sh

