/- Part of the proof; written by a program out of the texts in wip/. -/
import Derived.Test.YtmplmekdilmdgaaStreamChecksTop3
import Derived.Test.YtmplmekdilmdgaaStreamChecksRd
import Derived.KernelRfl
set_option linter.unusedVariables false
set_option linter.unusedSimpArgs false
namespace Go.Sh
open Go Go.Eng
theorem ZnK {ρ:Type} {n:Nat} {p:Nat→Bool} {body:Int→Option (Int ⊕ ρ)} {bad fin:ρ} (hstep:∀ k:Nat,k<n→body (k:Int)=if p k=true then some (.inl ((k+1:Nat):Int)) else some (.inr bad))
  (hend:body (n:Int)=some (.inr fin)):∀ (m N k:Nat),n - k=m→k≤n→m<N→Z2 body N (k:Int)=some (if (List.range' k m).all p then fin else bad):=by
 intro m
 induction m with
 | zero =>
  intro N k h1 h2 h3
  obtain rfl:k=n:=by omega
  cases N with
  | zero=>omega
  | succ N=>rw [Zbr hend];rfl
 | succ m ih =>
  intro N k h1 h2 h3
  cases N with
  | zero=>omega
  | succ N =>
   rw [List.range'_succ,List.all_cons]
   by_cases hp:p k=true
   ·rw [Zdp (by rw [hstep k (by omega),if_pos hp]),ih N (k+1) (by omega) (by omega) (by omega),hp,Bool.true_and]
   ·rw [Zbr (by rw [hstep k (by omega),if_neg hp])]
    simp [hp]
section
variable {N:Nat} {t:Zg}
theorem make0 {b:Nat} {c:Int} (h0:0≤c) (h1:c≤1000) (hb:b≤1000):Zjv b 0 c (0:Int)=some []:=by
 unfold Zjv
 have:c * (b:Int)≤1000 * 1000:=Int.mul_le_mul h1 (by omega) (by omega) (by omega)
 rw [if_pos ⟨Int.le_refl _,h0,by omega,by omega⟩]
 rfl
theorem ZcK {r:List Int} (h:ZaG t r=true):1≤r.length∧r.length≤8∧∀ k,k<r.length→ZcA t (at0 r k)=true:=by
 simp only [ZaG,Bool.and_eq_true,decide_eq_true_eq,ZaV] at h
 exact ⟨h.1,h.2.1,fun k hk=>by have:=h.2.2 k hk;simp only [okAt,Bool.and_eq_true] at this;exact this.1⟩
theorem Zfl (g:Good t) {r:List Int} (hv:ZaG t r=true) (hN:200≤N):Zbn N ⟨t⟩ r=some (Zaa t r):=by
 have hL:t.Links.length≤1000:=by have:=g.l24;omega
 obtain ⟨h1,h8,hp⟩:=ZcK hv
 have hlen:=Zda (t:=t) r
 unfold Zbn
 rw [Z5 (by omega) (by omega),make0 (by omega) (by omega) (by omega),Option.bind_some]
 unfold Zck ZbD
 simp only [Option.bind_some]
 have:=ZcF (n:=r.length) (f:=fun b k=>(Zaa t r).take (k+2))
  (body:=fun x:Int × (List Int)=>ZR N (fun (s:(List Int)) (x13:Int) (x14:ZaE)=>ZdB (fun v:(List Int)=>Zax N v x13 x14) s) r ⟨t⟩ x.1 x.2) (fin:=fun b=>b) (fun k b=>b=if k=0 then [] else (Zaa t r).take (k+1))
  (fun k b hk hb=>by
   show ZR N _ r ⟨t⟩ k b=_
   rw [ZjB hL _ _ hk (by omega),if_pos (hp k hk)]
   have:Zax N b (k:Int) ⟨at0 r k,frm t (at0 r k),too t (at0 r k)⟩=some ((Zaa t r).take (k+2)):=by
    unfold Zax
    subst hb
    by_cases hk0:k=0
    ·subst hk0
     rw [if_pos (by simp),if_pos rfl,Zep (by simp) (by omega),Option.bind_some,Option.bind_some,Zep (by simp) (by omega),Option.bind_some,← Zfq hk]
     unfold nd Zaa
     obtain ⟨a,l,rfl⟩:∃ a l,r=a::l:=by cases r with
      | nil=>simp at hk
      | cons a l=>exact ⟨a,l,rfl⟩
     simp
    ·rw [if_neg (by simp;omega),if_neg hk0,Option.bind_some,Zep (by simp;omega) (by omega),Option.bind_some,← Zfq hk,Zf8 (k:=k+1) (by omega)]
   simp only [ZdB,this,Option.map_some,Option.bind_some]
   rfl)
  (fun k b hk hb=>by rw [if_neg (by omega)])
  (fun b hb=>Znb _ _) (N:=N) (by omega) (b0:=[]) (by rw [if_pos rfl])
 rw [this.1,Option.bind_some,Option.bind_some,this.2,if_neg (by omega),List.take_of_length_le (by omega)]
def errR (t:Zg) (r:List Int):Int:=if ZeD t then (if ZaG t r then 0 else 310) else 260
theorem Zd7 {r:List Int} (h12:r.length≤100) (hN:200≤N):ZcR N t r=some (errR t r):=by
 unfold ZcR errR
 rw [ZdD (by omega),Option.bind_some]
 cases hT:ZeD t with
 | false=>rfl
 | true =>
  simp only [if_true,bne_self_eq_false,Bool.false_eq_true,if_false]
  rw [Zfk (Za1.1 hT) h12 hN,Option.bind_some]
  cases ZaG t r<;>rfl
theorem Zgx {r:List Int}:errR t r=0↔ZeD t=true∧ZaG t r=true:=by
 unfold errR
 cases ZeD t<;>cases ZaG t r<;>simp
section
variable {r:List Int}
theorem Zjd (h12:r.length≤100) (hN:200≤N) (he:errR t r ≠ 0):ZcQ N t r=some ([],errR t r):=by
 unfold ZcQ ZcE
 rw [Zd7 h12 hN]
 simp [he]
theorem Zj2 (h12:r.length≤100) (hN:200≤N) (he:errR t r ≠ 0):Zc1 N t r=some (0,0,errR t r):=by
 unfold Zc1
 rw [Zjd h12 hN he]
 simp [he]
theorem Zjc (h12:r.length≤100) (hN:200≤N) (he:errR t r=0):ZcQ N t r=some (Zaa t r,0):=by
 obtain ⟨hT,hv⟩:=Zgx.1 he
 unfold ZcQ ZcE ZdG
 rw [Zd7 h12 hN,he]
 simp only [Option.bind_some,bne_self_eq_false,Bool.false_eq_true,if_false]
 rw [Zfl (Za1.1 hT) hv hN]
 rfl
theorem Zj1 (h12:r.length≤100) (hN:200≤N) (he:errR t r=0):Zc1 N t r=some (nd t r 0,nd t r r.length,0):=by
 have hlen:=Zda (t:=t) r
 unfold Zc1
 rw [Zjc h12 hN he]
 simp only [Option.bind_some,bne_self_eq_false,Bool.false_eq_true,if_false]
 rw [show (0:Int)=((0:Nat):Int) from rfl,ZcB (show 0<(Zaa t r).length by omega),Z5 (by omega) (by omega),show ((Zaa t r).length:Int) - 1=((r.length:Nat):Int) by omega,ZcB (by omega),ZlY,ZlY]
 rfl
end
end
end Go.Sh
