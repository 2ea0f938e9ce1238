/- Part of the proof; written by a program out of the texts in wip/. -/
import Derived.Test.YtmplmekdilmdgaaStreamArrivesTop3
import Derived.Test.YtmplmekdilmdgaaStreamArrivesRd
import Derived.KernelRfl
set_option linter.unusedVariables false
set_option linter.unusedSimpArgs false
namespace Go.Sh
open Go Go.Eng
theorem Zm1 {ρ:Type} {n:Nat} {p:Nat→Bool} {body:Int→Option (Int ⊕ ρ)} {bad fin:ρ} (hstep:∀ k:Nat,k<n→body (k:Int)=if p k=true then some (.inl ((k+1:Nat):Int)) else some (.inr bad))
  (hend:body (n:Int)=some (.inr fin)):∀ (m N k:Nat),n - k=m→k≤n→m<N→Zae body N (k:Int)=some (if (List.range' k m).all p then fin else bad):=by
 intro m
 induction m with
 | zero =>
  intro N k h1 h2 h3
  obtain rfl:k=n:=by omega
  cases N with
  | zero=>omega
  | succ N=>rw [Za8 hend];rfl
 | succ m ih =>
  intro N k h1 h2 h3
  cases N with
  | zero=>omega
  | succ N =>
   rw [List.range'_succ,List.all_cons]
   by_cases hp:p k=true
   ·rw [ZcU (by rw [hstep k (by omega),if_pos hp]),ih N (k+1) (by omega) (by omega) (by omega),hp,Bool.true_and]
   ·rw [Za8 (by rw [hstep k (by omega),if_neg hp])]
    simp [hp]
section
variable {N:Nat} {t:Ze}
theorem make0 {b:Nat} {c:Int} (h0:0≤c) (h1:c≤1000) (hb:b≤1000):Zku b 0 c (0:Int)=some []:=by
 unfold Zku
 have:c * (b:Int)≤1000 * 1000:=Int.mul_le_mul h1 (by omega) (by omega) (by omega)
 rw [if_pos ⟨Int.le_refl _,h0,by omega,by omega⟩]
 rfl
theorem Zcj {r:List Int} (h:ZaA t r=true):1≤r.length∧r.length≤8∧∀ k,k<r.length→ZbT t (at0 r k)=true:=by
 simp only [ZaA,Bool.and_eq_true,decide_eq_true_eq,ZaP] at h
 exact ⟨h.1,h.2.1,fun k hk=>by have:=h.2.2 k hk;simp only [okAt,Bool.and_eq_true] at this;exact this.1⟩
theorem ZeC (g:Good t) {r:List Int} (hv:ZaA t r=true) (hN:200≤N):Za3 N ⟨t⟩ r=some (Z6 t r):=by
 have hL:t.Links.length≤1000:=by have:=g.l24;omega
 obtain ⟨h1,h8,hp⟩:=Zcj hv
 have hlen:=ZcH (t:=t) r
 unfold Za3
 rw [ZR (by omega) (by omega),make0 (by omega) (by omega) (by omega),Option.bind_some]
 unfold ZbP Zbk
 simp only [Option.bind_some]
 have:=Zc3 (n:=r.length) (f:=fun b k=>(Z6 t r).take (k+2))
  (body:=fun x:Int × (List Int)=>ZP N (fun (s:(List Int)) (x13:Int) (x14:Zay)=>Zc6 (fun v:(List Int)=>Zat N v x13 x14) s) r ⟨t⟩ x.1 x.2) (fin:=fun b=>b) (fun k b=>b=if k=0 then [] else (Z6 t r).take (k+1))
  (fun k b hk hb=>by
   show ZP N _ r ⟨t⟩ k b=_
   rw [ZiS hL _ _ hk (by omega),if_pos (hp k hk)]
   have:Zat N b (k:Int) ⟨at0 r k,frm t (at0 r k),too t (at0 r k)⟩=some ((Z6 t r).take (k+2)):=by
    unfold Zat
    subst hb
    by_cases hk0:k=0
    ·subst hk0
     rw [if_pos (by simp),if_pos rfl,ZeW (by simp) (by omega),Option.bind_some,Option.bind_some,ZeW (by simp) (by omega),Option.bind_some,← ZeG hk]
     unfold nd Z6
     obtain ⟨a,l,rfl⟩:∃ a l,r=a::l:=by cases r with
      | nil=>simp at hk
      | cons a l=>exact ⟨a,l,rfl⟩
     simp
    ·rw [if_neg (by simp;omega),if_neg hk0,Option.bind_some,ZeW (by simp;omega) (by omega),Option.bind_some,← ZeG hk,Zfw (k:=k+1) (by omega)]
   simp only [Zc6,this,Option.map_some,Option.bind_some]
   rfl)
  (fun k b hk hb=>by rw [if_neg (by omega)])
  (fun b hb=>Zmt _ _) (N:=N) (by omega) (b0:=[]) (by rw [if_pos rfl])
 rw [this.1,Option.bind_some,Option.bind_some,this.2,if_neg (by omega),List.take_of_length_le (by omega)]
def errR (t:Ze) (r:List Int):Int:=if ZeL t then (if ZaA t r then 0 else 310) else 260
theorem Zdy {r:List Int} (h12:r.length≤100) (hN:200≤N):Zco N t r=some (errR t r):=by
 unfold Zco errR
 rw [Zc7 (by omega),Option.bind_some]
 cases hT:ZeL t with
 | false=>rfl
 | true =>
  simp only [if_true,bne_self_eq_false,Bool.false_eq_true,if_false]
  rw [ZeB (Za1.1 hT) h12 hN,Option.bind_some]
  cases ZaA t r<;>rfl
theorem ZfQ {r:List Int}:errR t r=0↔ZeL t=true∧ZaA t r=true:=by
 unfold errR
 cases ZeL t<;>cases ZaA t r<;>simp
section
variable {r:List Int}
theorem Zix (h12:r.length≤100) (hN:200≤N) (he:errR t r ≠ 0):Zcn N t r=some ([],errR t r):=by
 unfold Zcn Zca
 rw [Zdy h12 hN]
 simp [he]
theorem Zjg (h12:r.length≤100) (hN:200≤N) (he:errR t r ≠ 0):Zcz N t r=some (0,0,errR t r):=by
 unfold Zcz
 rw [Zix h12 hN he]
 simp [he]
theorem Ziw (h12:r.length≤100) (hN:200≤N) (he:errR t r=0):Zcn N t r=some (Z6 t r,0):=by
 obtain ⟨hT,hv⟩:=ZfQ.1 he
 unfold Zcn Zca Zdb
 rw [Zdy h12 hN,he]
 simp only [Option.bind_some,bne_self_eq_false,Bool.false_eq_true,if_false]
 rw [ZeC (Za1.1 hT) hv hN]
 rfl
theorem Zjf (h12:r.length≤100) (hN:200≤N) (he:errR t r=0):Zcz N t r=some (nd t r 0,nd t r r.length,0):=by
 have hlen:=ZcH (t:=t) r
 unfold Zcz
 rw [Ziw h12 hN he]
 simp only [Option.bind_some,bne_self_eq_false,Bool.false_eq_true,if_false]
 rw [show (0:Int)=((0:Nat):Int) from rfl,Zcl (show 0<(Z6 t r).length by omega),ZR (by omega) (by omega),show ((Z6 t r).length:Int) - 1=((r.length:Nat):Int) by omega,Zcl (by omega),Zlh,Zlh]
 rfl
end
end
end Go.Sh
