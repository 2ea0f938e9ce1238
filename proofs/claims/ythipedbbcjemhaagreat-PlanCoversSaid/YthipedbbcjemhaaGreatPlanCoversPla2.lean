/- Part of the proof; written by a program out of the texts in wip/. -/
import Derived.Test.YthipedbbcjemhaaGreatPlanCoversTop2
import Derived.Test.YthipedbbcjemhaaGreatPlanCoversRd
import Derived.KernelRfl
set_option linter.unusedVariables false
set_option linter.unusedSimpArgs false
namespace Go.Sh
open Go Go.Eng
theorem perU_in {P:List Int} {u:ZB} (h0:0≤u.Stream) (h1:u.Stream<(P.length:Int)):perU P u ∈ P:=by
 unfold perU
 rw [Zc4 (by omega)]
 exact List.getElem_mem _
def u0:ZB:=⟨0,0,0,0⟩
end Go.Sh

set_option linter.unusedVariables false
set_option linter.unusedSimpArgs false
namespace Go.Sh
open Go Go.Eng
theorem Zk8 {α:Type} {b:Nat} {l:List α} {x:α} (hl:l.length≤1000) (hb:b≤1000):appI b l [x]=some (l++[x]):=by
 refine ZpG ?_ (by omega)
 simp;omega
set_option maxRecDepth 100000 in
theorem Zo5 (n:Nat):Zfb (n+300)=some true:=by kernel_rfl
theorem works24 {N:Nat} (hN:2000≤N):Zfb N=some true:=by
 obtain ⟨n,rfl⟩:∃ n,N=n+300:=⟨N - 300,by omega⟩
 exact Zo5 n
end Go.Sh
set_option linter.unusedVariables false
set_option linter.unusedSimpArgs false
namespace Go.Sh
open Go Go.Eng
theorem Zpu {ρ:Type} {n:Nat} {p:Nat→Bool} {body:Int→Option (Int ⊕ ρ)} {bad fin:ρ} (hstep:∀ k:Nat,k<n→body (k:Int)=if p k=true then some (.inl ((k+1:Nat):Int)) else some (.inr bad))
  (hend:body (n:Int)=some (.inr fin)):∀ (m N k:Nat),n - k=m→k≤n→m<N→Z2 body N (k:Int)=some (if (List.range' k m).all p then fin else bad):=by
 intro m
 induction m with
 | zero =>
  intro N k h1 h2 h3
  obtain rfl:k=n:=by omega
  cases N with
  | zero=>omega
  | succ N=>rw [ZaH hend];rfl
 | succ m ih =>
  intro N k h1 h2 h3
  cases N with
  | zero=>omega
  | succ N =>
   rw [List.range'_succ,List.all_cons]
   by_cases hp:p k=true
   ·rw [Zb5 (by rw [hstep k (by omega),if_pos hp]),ih N (k+1) (by omega) (by omega) (by omega),hp,Bool.true_and]
   ·rw [ZaH (by rw [hstep k (by omega),if_neg hp])]
    simp [hp]
section
variable {N:Nat} {t:Zh}
theorem make0 {b:Nat} {c:Int} (h0:0≤c) (h1:c≤1000) (hb:b≤1000):Zh2 b 0 c (0:Int)=some []:=by
 unfold Zh2
 have:c * (b:Int)≤1000 * 1000:=Int.mul_le_mul h1 (by omega) (by omega) (by omega)
 rw [if_pos ⟨Int.le_refl _,h0,by omega,by omega⟩]
 rfl
theorem Zb3 {r:List Int} (h:ZaE t r=true):1≤r.length∧r.length≤8∧∀ k,k<r.length→ZbS t (at0 r k)=true:=by
 simp only [ZaE,Bool.and_eq_true,decide_eq_true_eq,Zba] at h
 exact ⟨h.1,h.2.1,fun k hk=>by have:=h.2.2 k hk;simp only [okAt,Bool.and_eq_true] at this;exact this.1⟩
theorem ZfE (g:Good t) {r:List Int} (hv:ZaE t r=true) (hN:200≤N):Zbt N ⟨t⟩ r=some (Zah t r):=by
 have hL:t.Links.length≤1000:=by have:=g.l24;omega
 obtain ⟨h1,h8,hp⟩:=Zb3 hv
 have hlen:=Zdi (t:=t) r
 unfold Zbt
 rw [ZP (by omega) (by omega),make0 (by omega) (by omega) (by omega),Option.bind_some]
 unfold Zcj ZbI
 simp only [Option.bind_some]
 have:=ZdJ (n:=r.length) (f:=fun b k=>(Zah t r).take (k+2))
  (body:=fun x:Int × (List Int)=>Z0 N (fun (s:(List Int)) (x13:Int) (x14:ZaG)=>ZdL (fun v:(List Int)=>ZaA N v x13 x14) s) r ⟨t⟩ x.1 x.2) (fin:=fun b=>b) (fun k b=>b=if k=0 then [] else (Zah t r).take (k+1))
  (fun k b hk hb=>by
   show Z0 N _ r ⟨t⟩ k b=_
   rw [ZkQ hL _ _ hk (by omega),if_pos (hp k hk)]
   have:ZaA N b (k:Int) ⟨at0 r k,frm t (at0 r k),too t (at0 r k)⟩=some ((Zah t r).take (k+2)):=by
    unfold ZaA
    subst hb
    by_cases hk0:k=0
    ·subst hk0
     rw [if_pos (by simp),if_pos rfl,Zf2 (by simp) (by omega),Option.bind_some,Option.bind_some,Zf2 (by simp) (by omega),Option.bind_some,← ZfI hk]
     unfold nd Zah
     obtain ⟨a,l,rfl⟩:∃ a l,r=a::l:=by cases r with
      | nil=>simp at hk
      | cons a l=>exact ⟨a,l,rfl⟩
     simp
    ·rw [if_neg (by simp;omega),if_neg hk0,Option.bind_some,Zf2 (by simp;omega) (by omega),Option.bind_some,← ZfI hk,ZgM (k:=k+1) (by omega)]
   simp only [ZdL,this,Option.map_some,Option.bind_some]
   rfl)
  (fun k b hk hb=>by rw [if_neg (by omega)])
  (fun b hb=>ZoO _ _) (N:=N) (by omega) (b0:=[]) (by rw [if_pos rfl])
 rw [this.1,Option.bind_some,Option.bind_some,this.2,if_neg (by omega),List.take_of_length_le (by omega)]
def errR (t:Zh) (r:List Int):Int:=if Zeo t then (if ZaE t r then 0 else 310) else 260
theorem Zei {r:List Int} (h12:r.length≤100) (hN:200≤N):ZcW N t r=some (errR t r):=by
 unfold ZcW errR
 rw [ZeN (by omega),Option.bind_some]
 cases hT:Zeo t with
 | false=>rfl
 | true =>
  simp only [if_true,bne_self_eq_false,Bool.false_eq_true,if_false]
  rw [ZfD (ZaX.1 hT) h12 hN,Option.bind_some]
  cases ZaE t r<;>rfl
theorem Zhe {r:List Int}:errR t r=0↔Zeo t=true∧ZaE t r=true:=by
 unfold errR
 cases Zeo t<;>cases ZaE t r<;>simp
section
variable {r:List Int}
theorem Zkm (h12:r.length≤100) (hN:200≤N) (he:errR t r ≠ 0):ZcV N t r=some ([],errR t r):=by
 unfold ZcV ZcI
 rw [Zei h12 hN]
 simp [he]
theorem Zlh (h12:r.length≤100) (hN:200≤N) (he:errR t r ≠ 0):Zc9 N t r=some (0,0,errR t r):=by
 unfold Zc9
 rw [Zkm h12 hN he]
 simp [he]
theorem Zkl (h12:r.length≤100) (hN:200≤N) (he:errR t r=0):ZcV N t r=some (Zah t r,0):=by
 obtain ⟨hT,hv⟩:=Zhe.1 he
 unfold ZcV ZcI ZdM
 rw [Zei h12 hN,he]
 simp only [Option.bind_some,bne_self_eq_false,Bool.false_eq_true,if_false]
 rw [ZfE (ZaX.1 hT) hv hN]
 rfl
theorem Zlg (h12:r.length≤100) (hN:200≤N) (he:errR t r=0):Zc9 N t r=some (nd t r 0,nd t r r.length,0):=by
 have hlen:=Zdi (t:=t) r
 unfold Zc9
 rw [Zkl h12 hN he]
 simp only [Option.bind_some,bne_self_eq_false,Bool.false_eq_true,if_false]
 rw [show (0:Int)=((0:Nat):Int) from rfl,Zcz (show 0<(Zah t r).length by omega),ZP (by omega) (by omega),show ((Zah t r).length:Int) - 1=((r.length:Nat):Int) by omega,Zcz (by omega),Znz,Znz]
 rfl
end
end
end Go.Sh
