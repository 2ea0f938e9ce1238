/-Part of the proof. -/
import Derived.Test.YtlajapegdomhfaaGreatSynthListsOk2
set_option linter.all false
namespace Go.Sh
open Go Go.Eng Go.Proofs
set_option maxRecDepth 100000
set_option maxHeartbeats 4000000
attribute [local irreducible] vc ev ZbY opsD opsF ZkK upd updH updO aU opsU ap apH kx kb kbH kv setH kB
theorem law28_SynthLists_ok {N a0_ a1_ a2_}:PF Tryz.prog 3 [.agg (ZnB a0_),Zax false a1_,iv a2_] (Zga N a0_ a1_ a2_) bv:=pc chk3 (λr h=>by
 exact sq (r0<|sq (re<|ca 1 Zmd h (λr1 h=>ef<|sq (r0<|sq (r0<|sq (sq<|r0<|bk (ZjC 18<|ZbZ<|sq (r0<|sq (Zdj kr<|sk (kq<|sq (bk<|sq (r0<|sq (r0<|bk (ZjC 18<|ZbZ<|sq (r0<|sq (Zdj kr<|sk (kq<|sq (bk<|sq (r0<|sq (re<|ca 4 ZcQ h (λr2 h=>ef<|sq (re<|ca 4 ZfA h (λr3 h=>ef<|sq (rj (λx=>[(66,bv x)]) (λ_=>[]) h (λj7 hj=>bi 3 60 hj (λhj=>el hj) (λhj=>ca 3 Ze4 hj (λr6 hj=>el hj))) (λj7 h=>it h (λhc8 h=>sq (r0<|rt<|fz h)) (λhc8 h=>sk (kq<|r0<|ZbZ<|sq (r0<|sq (Zdj kr<|sk (kq<|sq (bk<|sq (r0<|sq (re<|ca 4 ZcQ h (λr9 h=>ef<|sq (re<|ca 4 ZfA h (λae h=>ef<|sq (rj (λx=>[(66,bv x)]) (λ_=>[]) h (λa5 hj=>bi 3 60 hj (λhj=>el hj) (λhj=>ca 3 Ze4 hj (λad hj=>el hj))) (λa5 h=>it h (λa2 h=>sq (r0<|rt<|fz h)) (λa2 h=>sk (kq<|r0<|ZbZ<|sq (r0<|sq (Zit kr<|kq (xq<|tx (tx<|bx (r0<|ZbZ<|sq (r0<|sq (Zdj kr<|sk (kq<|sq (bk<|sq (r0<|sq (r0<|bk (ZjC 18<|ZbZ<|sq (r0<|sq (Zdj kr<|sk (kq<|sq (bk<|sq (r0<|sq (re<|ca 4 ZcQ h (λac h=>ef<|sq (re<|ca 4 ZfA h (λab h=>ef<|sq (rj (λx=>[(66,bv x)]) (λ_=>[]) h (λa4 hj=>bi 3 60 hj (λhj=>el hj) (λhj=>ca 3 Ze4 hj (λaa hj=>el hj))) (λa4 h=>it h (λa1 h=>sq (r0<|rt<|fz h)) (λa1 h=>sk (kq<|r0<|ZbZ<|sq (r0<|sq (Zdj kr<|sk (kq<|sq (bk<|sq (r0<|sq (re<|ca 4 ZcQ h (λa9 h=>ef<|sq (re<|ca 4 ZfA h (λa8 h=>ef<|sq (rj (λx=>[(66,bv x)]) (λ_=>[]) h (λa3 hj=>bi 3 60 hj (λhj=>el hj) (λhj=>ca 3 Ze4 hj (λa7 hj=>el hj))) (λa3 h=>it h (λa0 h=>sq (r0<|rt<|fz h)) (λa0 h=>sk (kq<|r0<|ZbZ<|sq (r0<|sq (Zit kr<|kq (xq<|tx (tx<|bx (r0<|ZbZ<|sq (r0<|sq (Zit kr<|kq (xq<|tx (tx<|bx (sq<|re<|ca 0 Zqu h (λa6 h=>ef<|rt<|fz h)))))))))))))))))))))))))))))))))))))))))))))))))))))))))))))))))))))))))))))))))))))))))
 )
end Go.Sh

