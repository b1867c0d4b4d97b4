import Derived.Test.YtihdeagknggeiaaDoorFx
set_option autoImplicit false
set_option linter.unusedSimpArgs false
set_option linter.unusedVariables false
namespace Go.Proofs.YtihdeagknggeiaaDoor
open Go.Den
/-! The sets of independent letters, as they are grown. -/
def grw (near : Nat → Nat → Bool) : Nat → Nat → List Nat → List Nat
  | 0, _, _ => []
  | _ + 1, _, [] => []
  | f + 1, c, i :: r => ((c + 2 ^ i) :: grw near f (c + 2 ^ i) (r.filter (near i))) ++ grw near f c r
theorem grw_len (near : Nat → Nat → Bool) : ∀ (f c : Nat) (l : List Nat), (grw near f c l).length + 1 ≤ 2 ^ l.length
  | 0, _, l => by rw [grw]; exact Nat.pow_pos (by decide)
  | _ + 1, _, [] => by rw [grw]; decide
  | f + 1, c, i :: r => by
    have h1 := grw_len near f (c + 2 ^ i) (r.filter (near i))
    have h2 := grw_len near f c r
    have h3 : 2 ^ (r.filter (near i)).length ≤ 2 ^ r.length := Nat.pow_le_pow_right (by decide) (List.length_filter_le _ _)
    rw [grw, List.length_append, List.length_cons, List.length_cons, Nat.pow_succ]
    omega
/-- More fuel than letters changes nothing. -/
theorem grw_fuel (near : Nat → Nat → Bool) : ∀ (f g c : Nat) (l : List Nat), l.length ≤ f → l.length ≤ g → grw near f c l = grw near g c l
  | 0, g, c, l, hf, _ => by
    have : l = [] := List.eq_nil_of_length_eq_zero (by omega)
    subst this
    cases g <;> rfl
  | f + 1, 0, c, l, _, hg => by
    have : l = [] := List.eq_nil_of_length_eq_zero (by omega)
    subst this
    rfl
  | f + 1, g + 1, c, [], _, _ => rfl
  | f + 1, g + 1, c, i :: r, hf, hg => by
    rw [List.length_cons] at hf hg
    have h3 := List.length_filter_le (near i) r
    rw [grw, grw, grw_fuel near f g (c + 2 ^ i) _ (by omega) (by omega), grw_fuel near f g c r (by omega) (by omega)]
/-- m comes of c by some of the letters l, any two of which are near each other. -/
structure Grown (near : Nat → Nat → Bool) (c : Nat) (l : List Nat) (m : Nat) : Prop where
  off : ∀ i, i ∉ l → m.testBit i = c.testBit i
  ok : l.Pairwise fun i j => m.testBit i = true → m.testBit j = true → near i j = true
theorem add_bit {c i : Nat} (h : c.testBit i = false) (j : Nat) : (c + 2 ^ i).testBit j = (c.testBit j || decide (j = i)) := by
  have e : c + 2 ^ i = c ||| 2 ^ i := by
    refine (Nat.eq_of_testBit_eq fun k => ?_).symm
    have h1 : (c + 2 ^ i) = 2 ^ i * (c / 2 ^ i + 1) + c % 2 ^ i := by
      have := Nat.div_add_mod c (2 ^ i)
      rw [Nat.mul_add, Nat.mul_one]
      omega
    have h2 : (c / 2 ^ i) % 2 = 0 := by
      rw [Nat.testBit_eq_decide_div_mod_eq] at h
      have := of_decide_eq_false h
      omega
    have h3 : c / 2 ^ i + 1 = c / 2 ^ i ||| 1 := by
      refine (Nat.eq_of_testBit_eq fun k => ?_).symm
      cases k with
      | zero =>
        rw [Nat.testBit_or, Nat.testBit_zero, Nat.testBit_zero, Nat.testBit_zero]
        have : (c / 2 ^ i + 1) % 2 = 1 := by omega
        simp [this]
      | succ k =>
        rw [Nat.testBit_or, Nat.testBit_succ, Nat.testBit_succ, Nat.testBit_succ]
        have : (c / 2 ^ i + 1) / 2 = c / 2 ^ i / 2 := by omega
        rw [this]
        simp
    rw [h1, h3, Nat.testBit_or]
    rw [Nat.testBit_two_pow_mul_add _ (Nat.mod_lt _ (Nat.pow_pos (by decide)))]
    by_cases hk : k < i
    · rw [if_pos hk, Nat.testBit_mod_two_pow, Nat.testBit_two_pow]
      simp [hk]
      omega
    · rw [if_neg hk, Nat.testBit_or, Nat.testBit_div_two_pow, show k - i + i = k by omega, Nat.testBit_two_pow]
      by_cases hik : i = k
      · subst hik
        simp
      · have h1k : Nat.testBit 1 (k - i) = false := by
          rw [show (1 : Nat) = 2 ^ 0 from rfl, Nat.testBit_two_pow]
          exact decide_eq_false (by omega)
        simp [hik, h1k]
  rw [e, Nat.testBit_or, Nat.testBit_two_pow]
  by_cases hij : i = j
  · subst hij; simp
  · have : ¬ j = i := fun e => hij e.symm
    simp [hij, this]
set_option maxHeartbeats 16000000 in
set_option maxRecDepth 100000 in
theorem grown_nil {near : Nat → Nat → Bool} {c m : Nat} (h : Grown near c [] m) : m = c := Nat.eq_of_testBit_eq fun i => h.off i (by simp)
theorem grw_mem {near : Nat → Nat → Bool} : ∀ {f c : Nat} {l : List Nat}, l.length ≤ f → l.Nodup → (∀ i ∈ l, c.testBit i = false) → ∀ m, m ∈ c :: grw near f c l ↔ Grown near c l m
  | 0, c, l, hf, _, _, m => by
    have : l = [] := List.eq_nil_of_length_eq_zero (by omega)
    subst this
    rw [grw, List.mem_singleton]
    exact ⟨fun e => by subst e; exact ⟨fun _ _ => rfl, .nil⟩, grown_nil⟩
  | f + 1, c, [], _, _, _, m => by
    rw [grw, List.mem_singleton]
    exact ⟨fun e => by subst e; exact ⟨fun _ _ => rfl, .nil⟩, grown_nil⟩
  | f + 1, c, i :: r, hf, hn, hc, m => by
    obtain ⟨hir, hrn⟩ := List.nodup_cons.1 hn
    have hci := hc i (by simp)
    rw [List.length_cons] at hf
    have h3 := List.length_filter_le (near i) r
    have ih1 := grw_mem (near := near) (f := f) (c := c + 2 ^ i) (l := r.filter (near i)) (by omega) (hrn.filter _) (fun j hj => by
      have hjr := (List.mem_filter.1 hj).1
      rw [add_bit hci, hc j (List.mem_cons_of_mem _ hjr), Bool.false_or]
      exact decide_eq_false fun e => hir (e ▸ hjr)) m
    have ih2 := grw_mem (near := near) (f := f) (c := c) (l := r) (by omega) hrn (fun j hj => hc j (List.mem_cons_of_mem _ hj)) m
    have hsp : m ∈ c :: grw near (f + 1) c (i :: r) ↔ m ∈ (c + 2 ^ i) :: grw near f (c + 2 ^ i) (r.filter (near i)) ∨ m ∈ c :: grw near f c r := by
      rw [grw]
      simp only [List.mem_cons, List.mem_append, List.cons_append]
      constructor
      · rintro (h | h | h | h)
        · exact .inr (.inl h)
        · exact .inl (.inl h)
        · exact .inl (.inr h)
        · exact .inr (.inr h)
      · rintro ((h | h) | (h | h))
        · exact .inr (.inl h)
        · exact .inr (.inr (.inl h))
        · exact .inl h
        · exact .inr (.inr (.inr h))
    rw [hsp, ih1, ih2]
    constructor
    · rintro (h | h)
      · have hmi : m.testBit i = true := by
          rw [h.off i (fun hh => hir (List.mem_filter.1 hh).1), add_bit hci]
          simp
        have hmr : ∀ j ∈ r, m.testBit j = true → near i j = true := fun j hj hb => by
          cases hnj : near i j with
          | true => rfl
          | false =>
            have := h.off j (fun hh => by have := (List.mem_filter.1 hh).2; rw [hnj] at this; cases this)
            rw [hb, add_bit hci, hc j (List.mem_cons_of_mem _ hj), Bool.false_or] at this
            exact absurd (of_decide_eq_true this.symm) fun e => hir (e ▸ hj)
        refine ⟨fun j hj => ?_, List.pairwise_cons.2 ⟨fun j hj _ hb => hmr j hj hb, ?_⟩⟩
        · have hji : ¬ j = i := fun e => hj (by simp [e])
          have hjr : j ∉ r := fun hh => hj (List.mem_cons_of_mem _ hh)
          rw [h.off j (fun hh => hjr (List.mem_filter.1 hh).1), add_bit hci]
          simp [hji]
        · have hk := List.pairwise_filter.1 h.ok
          refine List.Pairwise.imp_of_mem (fun {a b} ha hb hh h1 h2 => ?_) hk
          exact hh (hmr a ha h1) (hmr b hb h2) h1 h2
      · have hmi : m.testBit i = false := by rw [h.off i hir]; exact hci
        refine ⟨fun j hj => h.off j fun hh => hj (List.mem_cons_of_mem _ hh), List.pairwise_cons.2 ⟨fun j hj hb _ => ?_, h.ok⟩⟩
        rw [hmi] at hb
        cases hb
    · intro h
      obtain ⟨hk1, hk2⟩ := List.pairwise_cons.1 h.ok
      cases hmi : m.testBit i with
      | true =>
        refine .inl ⟨fun j hj => ?_, List.pairwise_filter.2 (hk2.imp fun {a b} hh _ _ => hh)⟩
        rw [add_bit hci]
        by_cases hji : j = i
        · subst hji
          rw [hmi]
          simp
        · by_cases hjr : j ∈ r
          · have hnj : near i j = false := by
              cases hn2 : near i j with
              | false => rfl
              | true => exact absurd (List.mem_filter.2 ⟨hjr, hn2⟩) hj
            rw [hc j (List.mem_cons_of_mem _ hjr)]
            cases hb : m.testBit j with
            | false => simp [hji]
            | true => rw [hk1 j hjr hmi hb] at hnj; cases hnj
          · rw [h.off j (by simp [hji, hjr])]
            simp [hji]
      | false =>
        refine .inr ⟨fun j hj => ?_, hk2⟩
        by_cases hji : j = i
        · subst hji
          rw [hmi, hci]
        · exact h.off j (by simp [hji, hj])
theorem grw_nodup {near : Nat → Nat → Bool} : ∀ {f c : Nat} {l : List Nat}, l.length ≤ f → l.Nodup → (∀ i ∈ l, c.testBit i = false) → (c :: grw near f c l).Nodup
  | 0, c, l, _, _, _ => by rw [grw]; simp
  | f + 1, c, [], _, _, _ => by rw [grw]; simp
  | f + 1, c, i :: r, hf, hn, hc => by
    obtain ⟨hir, hrn⟩ := List.nodup_cons.1 hn
    have hci := hc i (by simp)
    rw [List.length_cons] at hf
    have h3 := List.length_filter_le (near i) r
    have hc1 : ∀ j ∈ r.filter (near i), (c + 2 ^ i).testBit j = false := fun j hj => by
      have hjr := (List.mem_filter.1 hj).1
      rw [add_bit hci, hc j (List.mem_cons_of_mem _ hjr), Bool.false_or]
      exact decide_eq_false fun e => hir (e ▸ hjr)
    have hc2 : ∀ j ∈ r, c.testBit j = false := fun j hj => hc j (List.mem_cons_of_mem _ hj)
    have n1 := grw_nodup (near := near) (f := f) (c := c + 2 ^ i) (l := r.filter (near i)) (by omega) (hrn.filter _) hc1
    have n2 := grw_nodup (near := near) (f := f) (c := c) (l := r) (by omega) hrn hc2
    have m1 := fun m => grw_mem (near := near) (f := f) (c := c + 2 ^ i) (l := r.filter (near i)) (by omega) (hrn.filter _) hc1 m
    have m2 := fun m => grw_mem (near := near) (f := f) (c := c) (l := r) (by omega) hrn hc2 m
    have hap : ∀ m, m ∈ (c + 2 ^ i) :: grw near f (c + 2 ^ i) (r.filter (near i)) → m ∉ c :: grw near f c r := fun m h1 h2 => by
      have a1 := ((m1 m).1 h1).off i (fun hh => hir (List.mem_filter.1 hh).1)
      have a2 := ((m2 m).1 h2).off i hir
      rw [a2, add_bit hci, hci] at a1
      simp at a1
    rw [grw]
    have : (c :: (((c + 2 ^ i) :: grw near f (c + 2 ^ i) (r.filter (near i))) ++ grw near f c r)).Perm (((c + 2 ^ i) :: grw near f (c + 2 ^ i) (r.filter (near i))) ++ (c :: grw near f c r)) := List.perm_middle.symm
    rw [this.nodup_iff]
    exact List.nodup_append.2 ⟨n1, n2, fun a ha b hb e => hap a ha (e ▸ hb)⟩
theorem perm_mem {α : Type} [DecidableEq α] {xs ys : List α} (hx : xs.Nodup) (hy : ys.Nodup) (h : ∀ a, a ∈ xs ↔ a ∈ ys) : xs.Perm ys :=
  List.perm_iff_count.2 fun a => by
    rw [hx.count, hy.count]
    by_cases ha : a ∈ xs
    · rw [if_pos ha, if_pos ((h a).1 ha)]
    · rw [if_neg ha, if_neg fun hh => ha ((h a).2 hh)]
theorem stpR_iff {D : Nat → Nat → Bool} : ∀ {n m : Nat}, stpR D n m = true ↔ ∀ a < n, m.testBit a = true → ∀ b < a, m.testBit b = true → D a b = false
  | 0, m => by simp [stpR]
  | n + 1, m => by
    rw [stpR, Bool.and_eq_true, stpR_iff (n := n), Bool.or_eq_true, List.all_eq_true]
    constructor
    · rintro ⟨h1, h2⟩ a ha hb b hba hbb
      rcases Nat.lt_or_ge a n with h | h
      · exact h1 a h hb b hba hbb
      · obtain rfl : a = n := by omega
        rcases h2 with h2 | h2
        · rw [hb] at h2; cases h2
        · have := h2 b (List.mem_range.2 hba)
          rw [hbb] at this
          simpa using this
    · intro h
      refine ⟨fun a ha => h a (by omega), ?_⟩
      cases hm : m.testBit n with
      | false => exact .inl rfl
      | true =>
        refine .inr fun b hb => ?_
        have hb := List.mem_range.1 hb
        cases hmb : m.testBit b with
        | false => rfl
        | true => rw [h n (by omega) hm b hb hmb]; rfl
/-- The steps of an alphabet in ascending order. -/
def stepL (D : Nat → Nat → Bool) (n : Nat) : List Nat := (List.range (2 ^ n)).filter (stpR D n)
theorem grw_perm {near D : Nat → Nat → Bool} {n : Nat} (hD : ∀ i j, i < j → j < n → near i j = !D j i) : (0 :: grw near n 0 (List.range n)).Perm (stepL D n) := by
  have hl : (List.range n).length ≤ n := by rw [List.length_range]; exact Nat.le_refl n
  have hz : ∀ i ∈ List.range n, (0 : Nat).testBit i = false := fun i _ => Nat.zero_testBit i
  refine perm_mem (grw_nodup hl List.nodup_range hz) (List.nodup_range.filter _) fun m => ?_
  rw [grw_mem hl List.nodup_range hz, stepL, List.mem_filter, List.mem_range, stpR_iff]
  constructor
  · intro h
    refine ⟨?_, fun a ha hb b hba hbb => ?_⟩
    · refine Nat.lt_pow_two_of_testBit m fun i hi => ?_
      rw [h.off i (by rw [List.mem_range]; omega), Nat.zero_testBit]
    · have hp := List.pairwise_iff_getElem.1 h.ok b a (by rw [List.length_range]; omega) (by rw [List.length_range]; omega) hba
      simp only [List.getElem_range] at hp
      have := hp hbb hb
      rw [hD b a hba ha] at this
      simpa using this
  · rintro ⟨h1, h2⟩
    refine ⟨fun i hi => ?_, ?_⟩
    · rw [Nat.zero_testBit]
      exact Nat.testBit_lt_two_pow (Nat.lt_of_lt_of_le h1 (Nat.pow_le_pow_right (by decide) (by rw [List.mem_range] at hi; omega)))
    · rw [List.pairwise_iff_getElem]
      intro i j hi hj hij h3 h4
      simp only [List.getElem_range] at h3 h4 ⊢
      rw [List.length_range] at hj
      rw [hD i j hij hj, h2 j hj h4 i hij h3]
      rfl
theorem natI_perm {xs ys : List Nat} (h : xs.Perm ys) : (natI xs).Perm (natI ys) := h.map _
theorem sortI_eq {xs : List Int} {ys : List Nat} (hp : xs.Perm (natI ys)) (hs : ys.Pairwise (· < ·)) : (xs.mergeSort fun x y => decide (x ≤ y)) = natI ys := by
  refine srt_unique (lt := fun x y : Int => decide (x < y)) (fun x y h1 h2 => ?_) ((List.mergeSort_perm xs _).trans hp) ?_ ?_
  · have := of_decide_eq_false h1
    have := of_decide_eq_false h2
    omega
  · have := List.pairwise_mergeSort (le := fun x y : Int => decide (x ≤ y)) (fun a b c h1 h2 => by simp at *; omega) (fun a b => by simp; omega) xs
    exact this.imp fun {a b} h => by simp at h ⊢; omega
  · unfold natI
    rw [List.pairwise_map]
    exact hs.imp fun {a b} h => by simp; omega
theorem stepL_sorted (D : Nat → Nat → Bool) (n : Nat) : (stepL D n).Pairwise (· < ·) := List.pairwise_lt_range.filter _
end Go.Proofs.YtihdeagknggeiaaDoor
