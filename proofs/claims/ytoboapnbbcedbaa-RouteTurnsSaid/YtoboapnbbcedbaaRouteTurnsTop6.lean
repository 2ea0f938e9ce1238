/- Part of the proof; written by a program out of the texts in wip/. -/
import Derived.Test.YtoboapnbbcedbaaRouteTurnsTop5
set_option linter.unusedVariables false
set_option linter.unusedSimpArgs false
namespace Go.Sh
open Go Go.Eng
def PF (p : Int → Bool) (k : Nat) : List Int := ((List.range k).map (fun (n : Nat) => (n : Int))).filter p
theorem PF_succ (p : Int → Bool) (k : Nat) : PF p (k + 1) = if p (k : Int) = true then PF p k ++ [(k : Int)] else PF p k := by
  unfold PF
  rw [List.range_succ, List.map_append, List.filter_append]
  by_cases h : p (k : Int) = true
  · rw [if_pos h]; simp [h]
  · rw [if_neg h]; simp [h]
theorem PF_len (p : Int → Bool) (k : Nat) : (PF p k).length ≤ k := by
  induction k with
  | zero => simp [PF]
  | succ k ih =>
    rw [PF_succ]
    split
    · rw [List.length_append, List.length_singleton]; omega
    · omega
theorem PF_stop {p : Int → Bool} {m : Nat} (h : ∀ k : Nat, m ≤ k → p (k : Int) = false) : ∀ k, m ≤ k → PF p k = PF p m := by
  intro k hk
  induction k with
  | zero => obtain rfl : m = 0 := by omega
            rfl
  | succ k ih =>
    by_cases e : m = k + 1
    · subst e; rfl
    · rw [PF_succ, if_neg (by rw [h k (by omega)]; simp), ih (by omega)]
theorem PF_mem {p : Int → Bool} {k : Nat} {x : Int} : x ∈ PF p k ↔ 0 ≤ x ∧ x < k ∧ p x = true := by
  unfold PF
  simp only [List.mem_filter, List.mem_map, List.mem_range]
  constructor
  · rintro ⟨⟨n, hn, rfl⟩, hp⟩; exact ⟨by omega, by omega, hp⟩
  · rintro ⟨h0, h1, hp⟩; exact ⟨⟨x.toNat, by omega, by omega⟩, hp⟩
theorem PF_sorted (p : Int → Bool) (k : Nat) : (PF p k).Pairwise (· < ·) := by
  unfold PF
  apply List.Pairwise.filter
  rw [List.pairwise_map]
  exact (List.pairwise_lt_range (n := k)).imp (fun h => by omega)
section
variable {N : Nat} {t : api_Topo}
def Cons (t : api_Topo) (D : List Int) : Prop := ∀ p ∈ D, ∀ q ∈ D, too t p = too t q → p = q
structure TInv (t : api_Topo) (rt : Int) (gd : Prop) (D : List Int) (v : Arr48_Bool × Arr12_i64 × Int × Bool) : Prop where
  used : ∀ x : Nat, x < 48 → v.1.l.getD x false = D.contains (x : Int)
  into : ∀ x : Nat, x < 12 → (v.2.1.l.getD x 0 = 0 ∧ ∀ q ∈ D, too t q ≠ x) ∨ ∃ q ∈ D, too t q = x ∧ v.2.1.l.getD x 0 = q + 1 ∧ 0 ≤ q ∧ q < 48
  root : v.2.2.1 = rt
  good : v.2.2.2 = true ↔ gd ∧ Cons t D
theorem arr48_get {a : Arr48_Bool} {x : Int} (h0 : 0 ≤ x) (h : x < 48) : a.get x = some (a.l.getD x.toNat false) := by
  unfold Arr48_Bool.get
  exact idx_getD false h0 (by show x < ((48 : Nat) : Int); omega)
theorem arr48_set {a : Arr48_Bool} {x : Int} {v : Bool} {y : Nat} (h0 : 0 ≤ x) (h : x < 48) : (a.set x v).l.getD y false = if y = x.toNat then v else a.l.getD y false := by
  rw [Arr48_Bool.l_set]
  have hlen : a.l.length = 48 := rfl
  rw [List.getD_eq_getElem?_getD, List.getD_eq_getElem?_getD, List.getElem?_set]
  by_cases e : y = x.toNat
  · subst e
    rw [if_pos rfl, if_pos (by omega), if_pos rfl]
    rfl
  · rw [if_neg (Ne.symm e), if_neg e]
theorem arrI_get {a : Arr12_i64} {x : Int} (h0 : 0 ≤ x) (h : x < 12) : a.get x = some (a.l.getD x.toNat 0) := by
  unfold Arr12_i64.get
  exact idx_getD 0 h0 (by show x < ((12 : Nat) : Int); omega)
theorem arrI_set {a : Arr12_i64} {x : Int} {v : Int} {y : Nat} (h0 : 0 ≤ x) (h : x < 12) : (a.set x v).l.getD y 0 = if y = x.toNat then v else a.l.getD y 0 := by
  rw [Arr12_i64.l_set]
  have hlen : a.l.length = 12 := rfl
  rw [List.getD_eq_getElem?_getD, List.getD_eq_getElem?_getD, List.getElem?_set]
  by_cases e : y = x.toNat
  · subst e
    rw [if_pos rfl, if_pos (by omega), if_pos rfl]
    rfl
  · rw [if_neg (Ne.symm e), if_neg e]
theorem cons_add {D : List Int} {p : Int} : Cons t (D ++ [p]) ↔ Cons t D ∧ ∀ q ∈ D, too t q = too t p → q = p := by
  unfold Cons
  simp only [List.mem_append, List.mem_singleton]
  constructor
  · intro h
    exact ⟨fun a ha b hb => h a (.inl ha) b (.inl hb), fun q hq e => h q (.inl hq) p (.inr rfl) e⟩
  · rintro ⟨h1, h2⟩ a ha b hb e
    rcases ha with ha | rfl <;> rcases hb with hb | rfl
    · exact h1 a ha b hb e
    · exact h2 a ha e
    · exact (h2 b hb e.symm).symm
    · rfl
theorem tree_step (g : Good t) {p : Int} (hp : portB t p = true) {rt : Int} {gd : Prop} {D : List Int} {v : Arr48_Bool × Arr12_i64 × Int × Bool} (hv : TInv t rt gd D v) {k : Nat} (rt' : Int) (gd' : Prop)
    (h0 : k = 0 → rt' = (if rt < 0 then frm t p else rt) ∧ (gd' ↔ gd ∧ rt' = frm t p)) (h1 : k ≠ 0 → rt' = rt ∧ (gd' ↔ gd)) :
    ∃ v', route_Tree_R3 N v.1 v.2.1 v.2.2.1 v.2.2.2 (k : Int) ⟨p, frm t p, too t p⟩ = some v' ∧ TInv t rt' gd' (D ++ [p]) v' := by
  obtain ⟨used, into, root, good⟩ := v
  obtain ⟨e1, e2, e3, e4⟩ := hv
  simp only at e1 e2 e3 e4
  subst e3
  obtain ⟨f1, f2, f3⟩ := ends_node g hp
  rw [nodeB_iff] at f1 f2
  have hn := g.n12
  have hl24 := g.l24
  have hp' := hp
  simp only [portB, Bool.and_eq_true, decide_eq_true_eq] at hp'
  have hp48 : p < 48 := by omega
  unfold route_Tree_R3
  simp only
  rw [arrI_get f2.1 (by omega), arr48_get hp'.1 hp48, w64_id (show -9223372036854775808 ≤ p + 1 by omega) (by omega)]
  simp only [Option.bind_some]
  have hin := e2 (too t p).toNat (by omega)
  rw [Int.toNat_of_nonneg f2.1] at hin
  generalize hE : into.l.getD (too t p).toNat 0 = E at hin
  have hchk : (if (E != 0) = true then some (E != p + 1) else some false) = some (!decide (E = 0 ∨ E = p + 1)) := by
    by_cases h : E = 0
    · simp [h]
    · rw [if_pos (by simpa using h)]
      by_cases h2 : E = p + 1
      · simp [h2]
      · have e5 : (E != p + 1) = true := by simpa using h2
        rw [e5, decide_eq_false (fun hh => hh.elim h h2)]; rfl
  have hno : Cons t D → ((∀ q ∈ D, too t q = too t p → q = p) ↔ (E = 0 ∨ E = p + 1)) := fun hC => by
    rcases hin with ⟨z, hz⟩ | ⟨q, hq, hq1, hq2, hq3, hq4⟩
    · exact ⟨fun _ => .inl z, fun _ q hq e => absurd e (hz q hq)⟩
    · constructor
      · intro h; have := h q hq hq1; right; omega
      · rintro (h | h) q' hq' e
        · omega
        · have : q' = q := hC q' hq' q hq (by rw [e, hq1])
          omega
  have hT : (∀ x : Nat, x < 48 → (used.set p true).l.getD x false = (D ++ [p]).contains (x : Int)) ∧ ∀ x : Nat, x < 12 → ((into.set (too t p) (p + 1)).l.getD x 0 = 0 ∧ ∀ q ∈ D ++ [p], too t q ≠ x) ∨ ∃ q ∈ D ++ [p], too t q = x ∧ (into.set (too t p) (p + 1)).l.getD x 0 = q + 1 ∧ 0 ≤ q ∧ q < 48 := by
    refine ⟨fun x hx => ?_, fun x hx => ?_⟩
    · rw [arr48_set hp'.1 hp48, List.contains_append, List.contains_cons, List.contains_nil, Bool.or_false]
      by_cases e : x = p.toNat
      · rw [if_pos e]
        have : ((x : Int) == p) = true := by simp; omega
        rw [this, Bool.or_true]
      · rw [if_neg e, e1 x hx]
        have : ((x : Int) == p) = false := by simp; omega
        rw [this, Bool.or_false]
    · rw [arrI_set f2.1 (by omega)]
      by_cases e : x = (too t p).toNat
      · right
        exact ⟨p, by simp, by omega, by rw [if_pos e], hp'.1, hp48⟩
      · rw [if_neg e]
        rcases e2 x hx with ⟨z, hz⟩ | ⟨q, hq, hq1⟩
        · left
          refine ⟨z, fun q hq => ?_⟩
          rcases List.mem_append.1 hq with hq | hq
          · exact hz q hq
          · simp only [List.mem_singleton] at hq; subst hq; omega
        · right; exact ⟨q, by simp [hq], hq1⟩
  have fin : ∀ b : Bool, (b = true ↔ gd' ∧ Cons t (D ++ [p])) → TInv t rt' gd' (D ++ [p]) (used.set p true, into.set (too t p) (p + 1), rt', b) := fun b hb => ⟨hT.1, hT.2, rfl, hb⟩
  by_cases hk : k = 0
  · subst hk
    obtain ⟨r1, r2⟩ := h0 rfl
    rw [show (((0 : Nat) : Int) == 0) = true from rfl]
    simp only [if_true, Option.bind_some]
    have hroot : (if decide (root < 0) = true then some (frm t p) else some root) = some rt' := by rw [r1]; by_cases h : root < 0 <;> simp [h]
    rw [hroot, Option.bind_some, hchk]
    by_cases hr : rt' = frm t p
    · rw [if_neg (by simpa using hr), Option.bind_some]
      by_cases hE2 : E = 0 ∨ E = p + 1
      · rw [decide_eq_true hE2]
        refine ⟨_, rfl, fin _ ?_⟩
        rw [e4, r2, cons_add]
        exact ⟨fun ⟨a, b⟩ => ⟨⟨a, hr⟩, b, (hno b).2 hE2⟩, fun ⟨⟨a, _⟩, b, _⟩ => ⟨a, b⟩⟩
      · rw [decide_eq_false hE2]
        refine ⟨_, rfl, fin _ ?_⟩
        rw [cons_add]
        exact ⟨fun h => (by cases h), fun ⟨_, b, c⟩ => absurd ((hno b).1 c) hE2⟩
    · rw [if_pos (by simpa using hr), Option.bind_some]
      refine ⟨_, rfl, fin _ ?_⟩
      rw [r2]
      exact ⟨fun h => (by cases h), fun ⟨⟨_, b⟩, _⟩ => absurd b hr⟩
  · obtain ⟨r1, r2⟩ := h1 hk
    rw [show (((k : Nat) : Int) == 0) = false by simp; omega]
    simp only [Bool.false_eq_true, if_false, Option.bind_some]
    rw [hchk, Option.bind_some]
    subst r1
    by_cases hE2 : E = 0 ∨ E = p + 1
    · rw [decide_eq_true hE2]
      refine ⟨_, rfl, fin _ ?_⟩
      rw [e4, r2, cons_add]
      exact ⟨fun ⟨a, b⟩ => ⟨a, b, (hno b).2 hE2⟩, fun ⟨a, b, _⟩ => ⟨a, b⟩⟩
    · rw [decide_eq_false hE2]
      refine ⟨_, rfl, fin _ ?_⟩
      rw [cons_add]
      exact ⟨fun h => (by cases h), fun ⟨_, b, c⟩ => absurd ((hno b).1 c) hE2⟩
theorem iterF_run {β ρ : Type} {n : Nat} {body : Int × β → Option ((Int × β) ⊕ ρ)} {fin : β → ρ} (I : Nat → β → Prop)
    (hstep : ∀ k b, k < n → I k b → ∃ b', body ((k : Int), b) = some (.inl (((k + 1 : Nat) : Int), b')) ∧ I (k + 1) b') (hend : ∀ b, I n b → body ((n : Int), b) = some (.inr (fin b))) :
    ∀ (m N k : Nat) (b : β), n - k = m → k ≤ n → m < N → I k b → ∃ b', iterF body N ((k : Int), b) = some (fin b') ∧ I n b' := by
  intro m
  induction m with
  | zero =>
    intro N k b h1 h2 h3 hb
    obtain rfl : k = n := by omega
    cases N with
    | zero => omega
    | succ N => exact ⟨b, by rw [iterF_inr (hend b hb)], hb⟩
  | succ m ih =>
    intro N k b h1 h2 h3 hb
    cases N with
    | zero => omega
    | succ N =>
      obtain ⟨b', s1, s2⟩ := hstep k b (by omega) hb
      obtain ⟨b'', i1, i2⟩ := ih N (k + 1) b' (by omega) (by omega) (by omega) s2
      exact ⟨b'', by rw [iterF_inl s1, i1], i2⟩
theorem tree_route (g : Good t) {r : List Int} (hv : validR t r = true) (hN : 200 ≤ N) {rt : Int} {gd : Prop} {D : List Int} {v : Arr48_Bool × Arr12_i64 × Int × Bool} (hi : TInv t rt gd D v) :
    ∃ v', route_walk_hops_1 N (fun (s : Arr48_Bool × Arr12_i64 × Int × Bool) (x1034 : Int) (x1035 : route_hop) => yieldT (fun v : Arr48_Bool × Arr12_i64 × Int × Bool => route_Tree_R3 N v.1 v.2.1 v.2.2.1 v.2.2.2 x1034 x1035) s) r ⟨t⟩ v = some v' ∧
      TInv t (if rt < 0 then frm t (at0 r 0) else rt) (gd ∧ (if rt < 0 then frm t (at0 r 0) else rt) = frm t (at0 r 0)) (D ++ r) v' := by
  have hL : t.Links.length ≤ 1000 := by have := g.l24; omega
  obtain ⟨h1, h8, hp⟩ := ports_of hv
  unfold route_walk_hops_1
  obtain ⟨v', l1, l2⟩ := iterF_run (n := r.length) (fin := fun b => b)
    (body := fun x : Int × (Arr48_Bool × Arr12_i64 × Int × Bool) => route_walk_hops_1_L1 N (fun (s : Arr48_Bool × Arr12_i64 × Int × Bool) (x1034 : Int) (x1035 : route_hop) => yieldT (fun v : Arr48_Bool × Arr12_i64 × Int × Bool => route_Tree_R3 N v.1 v.2.1 v.2.2.1 v.2.2.2 x1034 x1035) s) r ⟨t⟩ x.1 x.2)
    (fun k b => if k = 0 then TInv t rt gd D b else TInv t (if rt < 0 then frm t (at0 r 0) else rt) (gd ∧ (if rt < 0 then frm t (at0 r 0) else rt) = frm t (at0 r 0)) (D ++ r.take k) b)
    (fun k b hk hb => by
      have htk : r.take (k + 1) = r.take k ++ [at0 r k] := by rw [at0_k hk, List.take_append_getElem]
      have key : ∃ b', route_Tree_R3 N b.1 b.2.1 b.2.2.1 b.2.2.2 (k : Int) ⟨at0 r k, frm t (at0 r k), too t (at0 r k)⟩ = some b' ∧ TInv t (if rt < 0 then frm t (at0 r 0) else rt) (gd ∧ (if rt < 0 then frm t (at0 r 0) else rt) = frm t (at0 r 0)) (D ++ r.take (k + 1)) b' := by
        rw [htk, ← List.append_assoc]
        by_cases hk0 : k = 0
        · subst hk0
          rw [if_pos rfl] at hb
          simp only [List.take_zero, List.append_nil]
          exact tree_step g (hp 0 hk) hb _ _ (fun _ => ⟨rfl, Iff.rfl⟩) (fun h => absurd rfl h)
        · rw [if_neg hk0] at hb
          exact tree_step g (hp k hk) hb _ _ (fun h => absurd h hk0) (fun _ => ⟨rfl, Iff.rfl⟩)
      obtain ⟨b', k1, k2⟩ := key
      refine ⟨b', ?_, by rw [if_neg (by omega)]; exact k2⟩
      show route_walk_hops_1_L1 N _ r ⟨t⟩ k b = _
      rw [hops_step hL _ _ hk (by omega), if_pos (hp k hk)]
      simp only [yieldT, k1, Option.map_some, Option.bind_some]
      rfl)
    (fun b _ => hops_end _ _) r.length N 0 v (by omega) (by omega) (by omega) (by rw [if_pos rfl]; exact hi)
  rw [show ((0 : Nat) : Int) = 0 from rfl] at l1
  rw [if_neg (by omega), List.take_of_length_le (by omega)] at l2
  exact ⟨v', by rw [l1]; rfl, l2⟩
def froms (t : api_Topo) (l : List (List Int)) : Prop := ∀ r ∈ l, frm t (at0 r 0) = frm t (at0 (l.headD []) 0)
theorem mem_headD {l : List (List Int)} (h : l ≠ []) : l.headD [] ∈ l := by cases l with
  | nil => exact absurd rfl h
  | cons a l => simp
theorem tree_loop (g : Good t) {l : List (List Int)} (hl : l.length ≤ 100) (hv : ∀ r ∈ l, validR t r = true) (hN : 200 ≤ N) :
    ∃ v : Arr48_Bool × Arr12_i64 × Int × Bool, iterF (fun x : Int × Arr48_Bool × Arr12_i64 × Int × Bool => route_Tree_L2 N t l x.1 x.2.1 x.2.2.1 x.2.2.2.1 x.2.2.2.2) N (0, (⟨false, false, false, false, false, false, false, false, false, false, false, false, false, false, false, false, false, false, false, false, false, false, false, false, false, false, false, false, false, false, false, false, false, false, false, false, false, false, false, false, false, false, false, false, false, false, false, false⟩ : Arr48_Bool), (⟨0, 0, 0, 0, 0, 0, 0, 0, 0, 0, 0, 0⟩ : Arr12_i64), -1, true) = some (v.1, v.2.2.2) ∧
      (∀ x : Nat, x < 48 → v.1.l.getD x false = l.flatten.contains (x : Int)) ∧ (v.2.2.2 = true ↔ froms t l ∧ Cons t l.flatten) := by
  have hroot : ∀ r ∈ l, 0 ≤ frm t (at0 r 0) := fun r hr => by
    obtain ⟨h1, _, hp⟩ := ports_of (hv r hr)
    have := (ends_node g (hp 0 (by omega))).1
    rw [nodeB_iff] at this
    exact this.1
  obtain ⟨v, l1, l2⟩ := iterF_run (n := l.length) (fin := fun b : Arr48_Bool × Arr12_i64 × Int × Bool => (b.1, b.2.2.2)) (body := fun x : Int × Arr48_Bool × Arr12_i64 × Int × Bool => route_Tree_L2 N t l x.1 x.2.1 x.2.2.1 x.2.2.2.1 x.2.2.2.2)
    (fun k b => TInv t (if k = 0 then -1 else frm t (at0 (l.headD []) 0)) (∀ r ∈ l.take k, frm t (at0 r 0) = frm t (at0 (l.headD []) 0)) (l.take k).flatten b)
    (fun k b hk hb => by
      obtain ⟨b', r1, r2⟩ := tree_route (N := N) g (hv _ (List.getElem_mem hk)) hN hb
      have htk : l.take (k + 1) = l.take k ++ [l[k]] := by rw [List.take_append_getElem]
      refine ⟨b', ?_, ?_⟩
      · show route_Tree_L2 N t l k b.1 b.2.1 b.2.2.1 b.2.2.2 = _
        unfold route_Tree_L2
        rw [if_pos (by simp; omega), idx_k hk, Option.bind_some]
        unfold route_walk_hops
        simp only [Option.bind_some]
        rw [show route_walk_hops_1 N _ _ _ (b.1, b.2.1, b.2.2.1, b.2.2.2) = some b' from r1, Option.bind_some, w64_succ (by omega)]
      · rw [if_neg (by omega), htk, List.flatten_append]
        have hfl : [l[k]].flatten = l[k] := by simp
        rw [hfl]
        by_cases hk0 : k = 0
        · subst hk0
          have he : l.headD [] = l[0] := by
            obtain ⟨a, m, rfl⟩ : ∃ a m, l = a :: m := by cases l with
              | nil => simp at hk
              | cons a m => exact ⟨a, m, rfl⟩
            rfl
          simp only [if_true, show (-1 : Int) < 0 by omega] at r2
          rw [he]
          refine { r2 with good := ?_ }
          rw [r2.good]
          simp
        · rw [if_neg hk0] at r2
          have hge : ¬ frm t (at0 (l.headD []) 0) < 0 := by
            have := hroot _ (mem_headD (l := l) (by intro e; subst e; simp at hk))
            omega
          rw [if_neg hge] at r2
          refine { r2 with good := ?_ }
          rw [r2.good]
          constructor
          · rintro ⟨⟨a, b⟩, c⟩
            refine ⟨fun r hr => ?_, c⟩
            rcases List.mem_append.1 hr with hr | hr
            · exact a r hr
            · simp only [List.mem_singleton] at hr; subst hr; exact b.symm
          · rintro ⟨a, c⟩
            exact ⟨⟨fun r hr => a r (List.mem_append.2 (.inl hr)), (a _ (List.mem_append.2 (.inr (List.mem_singleton.2 rfl)))).symm⟩, c⟩)
    (fun b hb => by
      show route_Tree_L2 N t l l.length b.1 b.2.1 b.2.2.1 b.2.2.2 = _
      unfold route_Tree_L2
      rw [if_neg (by simp)]) l.length N 0 (⟨false, false, false, false, false, false, false, false, false, false, false, false, false, false, false, false, false, false, false, false, false, false, false, false, false, false, false, false, false, false, false, false, false, false, false, false, false, false, false, false, false, false, false, false, false, false, false, false⟩, ⟨0, 0, 0, 0, 0, 0, 0, 0, 0, 0, 0, 0⟩, -1, true) (by omega) (by omega) (by omega)
      ⟨fun x hx => by simp only [List.take_zero, List.flatten_nil, List.contains_nil]; revert x; decide, fun x hx => .inl ⟨by simp only; revert x; decide, by simp⟩, by simp, by simp [Cons]⟩
  rw [show ((0 : Nat) : Int) = 0 from rfl] at l1
  refine ⟨v, l1, ?_, ?_⟩
  · intro x hx; have := l2.used x hx; rwa [List.take_length] at this
  · have := l2.good; rwa [List.take_length] at this
theorem flatten_port {l : List (List Int)} (hv : ∀ r ∈ l, validR t r = true) {p : Int} (h : p ∈ l.flatten) : portB t p = true := by
  obtain ⟨r, hr, hp⟩ := List.mem_flatten.1 h
  obtain ⟨k, hk, rfl⟩ := List.getElem_of_mem hp
  have := (ports_of (hv r hr)).2.2 k hk
  rwa [at0_k hk] at this
open Classical in
noncomputable def treeB (t : api_Topo) (l : List (List Int)) : Bool := decide (froms t l ∧ Cons t l.flatten)
open Classical in
theorem treeB_iff {l : List (List Int)} : treeB t l = true ↔ froms t l ∧ Cons t l.flatten := by
  unfold treeB
  exact decide_eq_true_iff
theorem route_Tree_eq {l : List (List Int)} (hl : l.length ≤ 100) (h12 : ∀ r ∈ l, r.length ≤ 100) (hN : 200 ≤ N) : route_Tree N t l =
    some (if topoB t then (if l.all (validR t) then (PF (fun p => l.flatten.contains p) (2 * t.Links.length), treeB t l, 0) else ([], false, 310)) else ([], false, 260)) := by
  unfold route_Tree
  rw [topo_Check_eq (by omega), Option.bind_some]
  cases hT : topoB t with
  | false => rfl
  | true =>
    have g := topoB_good.1 hT
    simp only [if_true, bne_self_eq_false, Bool.false_eq_true, if_false]
    have a1 := iterF_allN (n := l.length) (p := fun k => validR t (l.getD k [])) (body := fun x : Int => route_Tree_L1 N t l x) (bad := .inr ([], false, 310)) (fin := .inl ()) (fun k hk => by
      unfold route_Tree_L1
      rw [if_pos (by simp; omega), idx_k hk, Option.bind_some, getD_k hk, route_valid_eq g (h12 _ (List.getElem_mem hk)) hN, Option.bind_some, w64_succ (by omega)]
      cases validR t l[k] <;> rfl) (by unfold route_Tree_L1; rw [if_neg (by simp)]) (N := N) (by omega)
    rw [a1, Option.bind_some]
    have e : allB l.length (fun k => validR t (l.getD k [])) = l.all (validR t) := by
      rw [Bool.eq_iff_iff, allB_iff, List.all_eq_true]
      constructor
      · intro h x hx
        obtain ⟨k, hk, rfl⟩ := List.getElem_of_mem hx
        have := h k hk
        rwa [getD_k hk] at this
      · intro h k hk
        rw [getD_k hk]
        exact h _ (List.getElem_mem hk)
    rw [e]
    cases hV : l.all (validR t) with
    | false => rfl
    | true =>
      simp only [if_true]
      rw [List.all_eq_true] at hV
      obtain ⟨v, t1, t2, t3⟩ := tree_loop (N := N) g hl hV hN
      rw [t1, Option.bind_some]
      have := iterF_fold (n := 48) (f := fun b k => PF (fun p => l.flatten.contains p) (k + 1)) (body := fun x : Int × (List Int) => route_Tree_L4 N (v.1, v.2.2.2) x.1 x.2) (fin := fun b => b) (fun k b => b = PF (fun p => l.flatten.contains p) k)
        (fun k b hk hb => by
          show route_Tree_L4 N (v.1, v.2.2.2) k b = _
          unfold route_Tree_L4
          subst hb
          have := PF_len (fun p => l.flatten.contains p) k
          rw [if_pos (by simp; omega)]
          simp only
          rw [arr48_get (by omega) (by omega), Option.bind_some, show ((k : Nat) : Int).toNat = k by omega, t2 k hk, PF_succ, w64_succ (by omega)]
          cases l.flatten.contains (k : Int) with
          | false => rfl
          | true => simp only [if_true]; rw [app_eq (by rw [List.length_singleton]; omega) (by omega)]; rfl)
        (fun k b hk hb => rfl)
        (fun b hb => by show route_Tree_L4 N (v.1, v.2.2.2) ((48 : Nat) : Int) b = _; unfold route_Tree_L4; rw [if_neg (by simp)]) (N := N) (by omega) (b0 := []) rfl
      rw [this.1, Option.bind_some, this.2]
      have h24 := g.l24
      rw [PF_stop (m := 2 * t.Links.length) (fun k hk => by
        cases hc : l.flatten.contains (k : Int) with
        | false => rfl
        | true =>
          rw [List.contains_iff_mem] at hc
          have := flatten_port hV hc
          simp only [portB, Bool.and_eq_true, decide_eq_true_eq] at this
          omega) 48 (by omega)]
      have hb : v.2.2.2 = treeB t l := by
        rw [Bool.eq_iff_iff, t3, treeB_iff]
      rw [hb]
end
end Go.Sh

