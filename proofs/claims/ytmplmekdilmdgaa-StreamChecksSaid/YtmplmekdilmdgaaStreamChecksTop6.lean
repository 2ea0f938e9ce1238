/- Part of the proof; written by a program out of the texts in wip/. -/
import Derived.Test.YtmplmekdilmdgaaStreamChecksTop5
set_option linter.unusedVariables false
set_option linter.unusedSimpArgs false
namespace Go.Sh
open Go Go.Eng
def PF (p:Int→Bool) (k:Nat):List Int:=((List.range k).map (fun (n:Nat)=>(n:Int))).filter p
theorem ZoI (p:Int→Bool) (k:Nat):PF p (k+1)=if p (k:Int)=true then PF p k++[(k:Int)] else PF p k:=by
 unfold PF
 rw [List.range_succ,List.map_append,List.filter_append]
 by_cases h:p (k:Int)=true
 ·rw [if_pos h];simp [h]
 ·rw [if_neg h];simp [h]
theorem Zpr (p:Int→Bool) (k:Nat):(PF p k).length≤k:=by
 induction k with
 | zero=>simp [PF]
 | succ k ih =>
  rw [ZoI]
  split
  ·rw [List.length_append,List.length_singleton];omega
  ·omega
theorem PF_mem {p:Int→Bool} {k:Nat} {x:Int}:x ∈ PF p k↔0≤x∧x<k∧p x=true:=by
 unfold PF
 simp only [List.mem_filter,List.mem_map,List.mem_range]
 constructor
 ·rintro ⟨⟨n,hn,rfl⟩,hp⟩;exact ⟨by omega,by omega,hp⟩
 ·rintro ⟨h0,h1,hp⟩;exact ⟨⟨x.toNat,by omega,by omega⟩,hp⟩
section
variable {N:Nat} {t:Zg}
theorem Zjx {β ρ:Type} {n:Nat} {body:Int × β→Option ((Int × β) ⊕ ρ)} {fin:β→ρ} (I:Nat→β→Prop)
  (hstep:∀ k b,k<n→I k b→∃ b',body ((k:Int),b)=some (.inl (((k+1:Nat):Int),b'))∧I (k+1) b') (hend:∀ b,I n b→body ((n:Int),b)=some (.inr (fin b))) :
  ∀ (m N k:Nat) (b:β),n - k=m→k≤n→m<N→I k b→∃ b',Z2 body N ((k:Int),b)=some (fin b')∧I n b':=by
 intro m
 induction m with
 | zero =>
  intro N k b h1 h2 h3 hb
  obtain rfl:k=n:=by omega
  cases N with
  | zero=>omega
  | succ N=>exact ⟨b,by rw [Zbr (hend b hb)],hb⟩
 | succ m ih =>
  intro N k b h1 h2 h3 hb
  cases N with
  | zero=>omega
  | succ N =>
   obtain ⟨b',s1,s2⟩:=hstep k b (by omega) hb
   obtain ⟨b'',i1,i2⟩:=ih N (k+1) b' (by omega) (by omega) (by omega) s2
   exact ⟨b'',by rw [Zdp s1,i1],i2⟩
end
end Go.Sh
