import Derived.Test.YtihdeagknggeiaaDoorFza
set_option autoImplicit false
set_option linter.unusedSimpArgs false
set_option linter.unusedVariables false
namespace Go.Proofs.YtihdeagknggeiaaDoor
open Go.Den
/-! The clique polynomial out of the steps. -/
def cntK (L : List Nat) (k : Nat) : Nat := (L.filter fun m => decide (popR 8 m = k)).length
def mxP (L : List Nat) : Nat := L.foldl (fun a m => max a (popR 8 m + 1)) 0
def polyX (L : List Nat) (n : Nat) : List Int := (List.range n).map fun k => sgn k * (cntK L k : Int)
def polyL (L : List Nat) : List Int := polyX L (mxP L)
theorem polyX_len (L : List Nat) (n : Nat) : (polyX L n).length = n := by simp [polyX]
theorem cntK_snoc (L : List Nat) (s k : Nat) : cntK (L ++ [s]) k = cntK L k + if popR 8 s = k then 1 else 0 := by
  unfold cntK
  rw [List.filter_append, List.length_append]
  congr 1
  by_cases h : popR 8 s = k <;> simp [h]
theorem mxP_snoc (L : List Nat) (s : Nat) : mxP (L ++ [s]) = max (mxP L) (popR 8 s + 1) := by
  unfold mxP
  rw [List.foldl_append]
  rfl
theorem mxP_le : ∀ (L : List Nat) (a : Nat), (∀ m ∈ L, popR 8 m + 1 ≤ 9) → a ≤ 9 → L.foldl (fun a m => max a (popR 8 m + 1)) a ≤ 9
  | [], a, _, h => h
  | x :: L, a, hL, h => mxP_le L _ (fun m hm => hL m (List.mem_cons_of_mem _ hm)) (by have := hL x (by simp); show max a (popR 8 x + 1) ≤ 9; omega)
theorem mxP_ge : ∀ (L : List Nat) (a : Nat), a ≤ L.foldl (fun a m => max a (popR 8 m + 1)) a ∧ ∀ m ∈ L, popR 8 m < L.foldl (fun a m => max a (popR 8 m + 1)) a
  | [], a => ⟨Nat.le_refl _, by simp⟩
  | x :: L, a => by
    obtain ⟨h1, h2⟩ := mxP_ge L (max a (popR 8 x + 1))
    refine ⟨Nat.le_trans (Nat.le_max_left _ _) h1, fun m hm => ?_⟩
    rcases List.mem_cons.1 hm with rfl | hm
    · exact Nat.lt_of_lt_of_le (Nat.lt_of_lt_of_le (Nat.lt_succ_self _) (Nat.le_max_right a _)) h1
    · exact h2 m hm
theorem cntK_over {L : List Nat} {k : Nat} (h : mxP L ≤ k) : cntK L k = 0 := by
  unfold cntK
  refine filt_none fun m hm => decide_eq_false fun e => ?_
  have := (mxP_ge L 0).2 m hm
  unfold mxP at h
  omega
theorem cntK_le (L : List Nat) (k : Nat) : cntK L k ≤ L.length := List.length_filter_le _ _
theorem polyX_more {L : List Nat} {n : Nat} (h : mxP L ≤ n) : polyX L n ++ [0] = polyX L (n + 1) := by
  unfold polyX
  rw [List.range_succ, List.map_append]
  congr 1
  rw [List.map_singleton, cntK_over h]
  simp
theorem sgn_mod (k : Nat) : sgn k = 1 - 2 * ((k % 2 : Nat) : Int) := by
  induction k with
  | zero => rfl
  | succ k ih =>
    show - sgn k = _
    rw [ih]
    omega
theorem polyX_set {L : List Nat} {s n : Nat} (h : popR 8 s < n) : (polyX L n).set (popR 8 s) (sgn (popR 8 s) * (cntK L (popR 8 s) : Int) + sgn (popR 8 s)) = polyX (L ++ [s]) n := by
  refine List.ext_getElem? fun j => ?_
  unfold polyX
  rw [List.getElem?_set, List.getElem?_map, List.getElem?_map, List.length_map, List.length_range]
  by_cases e : popR 8 s = j
  · subst e
    rw [if_pos rfl, if_pos h, List.getElem?_range h, Option.map_some, cntK_snoc, if_pos rfl]
    congr 1
    rw [Int.natCast_add, Int.mul_add]
    simp
  · rw [if_neg e]
    cases hj : (List.range n)[j]? with
    | none => rfl
    | some k =>
      obtain ⟨hj1, hj2⟩ := List.getElem?_eq_some_iff.1 hj
      rw [List.getElem_range] at hj2
      subst hj2
      rw [Option.map_some, Option.map_some, cntK_snoc, if_neg e]
      rfl
theorem popR_le : ∀ (n m : Nat), popR n m ≤ n
  | 0, _ => Nat.le_refl _
  | n + 1, m => by
    have := popR_le n m
    rw [popR]
    split <;> omega
theorem popR_more {n m : Nat} (h : m < 2 ^ n) : ∀ d, popR (n + d) m = popR n m
  | 0 => rfl
  | d + 1 => by
    show popR (n + d) m + (if m.testBit (n + d) = true then 1 else 0) = _
    rw [popR_more h d, Nat.testBit_lt_two_pow (Nat.lt_of_lt_of_le h (Nat.pow_le_pow_right (by decide) (Nat.le_add_right n d)))]
    rfl
theorem stepL_lt {D : Nat → Nat → Bool} {n m : Nat} (h : m ∈ stepL D n) : m < 2 ^ n := List.mem_range.1 (List.mem_filter.1 h).1
theorem stepL_len (D : Nat → Nat → Bool) (n : Nat) : (stepL D n).length ≤ 2 ^ n := by
  have := List.length_filter_le (stpR D n) (List.range (2 ^ n))
  rwa [List.length_range] at this
theorem cntK_step {D : Nat → Nat → Bool} {n : Nat} (hn : n ≤ 8) (k : Nat) : cntK (stepL D n) k = indB D (dnL n) (fun _ => false) k := by
  rw [← steps_count]
  unfold cntK stepL
  rw [List.filter_filter]
  refine filt_len fun m hm => ?_
  have hb : ∀ n, blkR (fun _ => false) n m = true := fun n => by
    induction n with
    | zero => rfl
    | succ n ih => rw [blkR, ih]; simp
  rw [hb, Bool.and_true, Bool.and_comm]
  congr 2
  have := popR_more (List.mem_range.1 hm) (8 - n)
  rw [show n + (8 - n) = 8 by omega] at this
  rw [this]
/-! How many traces: the recursion as it is computed. -/
theorem smI_cut {f : Nat → Int} {a : Nat} (h : ∀ k, a ≤ k → f k = 0) : ∀ b, a ≤ b → smI f b = smI f a
  | 0, hb => by
    have : a = 0 := by omega
    rw [this]
  | b + 1, hb => by
    by_cases e : a = b + 1
    · rw [e]
    · show smI f b + f b = _
      rw [h b (by omega), Int.add_zero, smI_cut h b (by omega)]
/-- The sum of the products that have been taken. -/
def sumP (p : Nat → Int) (T : Nat → Nat) (k j : Nat) : Int := smI (fun i => p (i + 1) * (T (k - (i + 1)) : Int)) j
theorem trc_sum {n : Nat} {D : Nat → Nat → Bool} (hs : ∀ a b, D a b = D b a) (hn : n ≤ 8) {k : Nat} (hk : 0 < k) {j : Nat} (hj : j = k ∨ j < k ∧ mxP (stepL D n) ≤ j + 1) : (trc n D k : Int) = - sumP (fun i => sgn i * (cntK (stepL D n) i : Int)) (trc n D) k j := by
  obtain ⟨m, rfl⟩ : ∃ m, k = m + 1 := ⟨k - 1, by omega⟩
  have h1 := trc_rec (n := n) hs m
  have h2 : sumP (fun i => sgn i * (cntK (stepL D n) i : Int)) (trc n D) (m + 1) (m + 1) = smI (fun k => sgn (k + 1) * ((indB D (dnL n) (fun _ => false) (k + 1) : Nat) : Int) * ((trc n D (m - k) : Nat) : Int)) (m + 1) := by
    unfold sumP
    refine smI_congr _ fun i _ => ?_
    dsimp only
    rw [cntK_step hn, show m + 1 - (i + 1) = m - i by omega]
  rw [h1, ← h2]
  rcases hj with rfl | ⟨hj, hm⟩
  · rfl
  · congr 1
    unfold sumP
    refine smI_cut (fun i hi => ?_) _ (by omega)
    dsimp only
    rw [cntK_over (show mxP (stepL D n) ≤ i + 1 by omega)]
    simp
theorem trc_zero (n : Nat) (D : Nat → Nat → Bool) : trc n D 0 = 1 := rfl
theorem trc_none (D : Nat → Nat → Bool) (k : Nat) : trc 0 D (k + 1) = 0 := rfl
theorem trc_le {n : Nat} {D : Nat → Nat → Bool} (h0 : 0 < n) {a b : Nat} (h : a ≤ b) : trc n D a ≤ trc n D b := by
  obtain ⟨d, rfl⟩ : ∃ d, b = a + d := ⟨b - a, by omega⟩
  clear h
  induction d with
  | zero => exact Nat.le_refl _
  | succ d ih => exact Nat.le_trans ih (trc_mono h0 _)
theorem trc_big {n : Nat} {D : Nat → Nat → Bool} {a b : Nat} (h : a ≤ b) (hb : 1000000000000000 < trc n D a) : 1000000000000000 < trc n D b := by
  cases n with
  | zero =>
    cases a with
    | zero => rw [trc_zero] at hb; omega
    | succ a => rw [trc_none] at hb; omega
  | succ n => exact Nat.lt_of_lt_of_le hb (trc_le (by omega) h)
end Go.Proofs.YtihdeagknggeiaaDoor
