import Derived.Test.YtihdeagknggeiaaDoorFn
set_option autoImplicit false
set_option linter.unusedSimpArgs false
set_option linter.unusedVariables false
namespace Go.Proofs.YtihdeagknggeiaaDoor
open Go.Den
/-! Classes counted from the front. -/
/-- How many letters like the one at i stand before it. -/
def num (w : List Nat) (i : Nat) : Nat := (w.take i).count (w.getD i 0)
/-- The weight of a digit, and the digits of a number. -/
def wt (c : Nat → Nat) : Nat → Nat
  | 0 => 1
  | a + 1 => wt c a * (c a + 1)
def dig (c : Nat → Nat) (a x : Nat) : Nat := x / wt c a % (c a + 1)
theorem wt_pos (c : Nat → Nat) : ∀ a, 0 < wt c a
  | 0 => Nat.one_pos
  | a + 1 => Nat.mul_pos (wt_pos c a) (Nat.succ_pos _)
theorem wt_le (c : Nat → Nat) : ∀ n, wt c n ≤ 2 ^ sumN c n
  | 0 => Nat.le_refl _
  | n + 1 => by
    show wt c n * (c n + 1) ≤ 2 ^ (sumN c n + c n)
    rw [Nat.pow_add]
    exact Nat.mul_le_mul (wt_le c n) (Nat.lt_two_pow_self)
theorem wt_mono (c : Nat → Nat) {a : Nat} : ∀ {n : Nat}, a ≤ n → wt c a ≤ wt c n
  | 0, h => by
    obtain rfl : a = 0 := by omega
    exact Nat.le_refl _
  | n + 1, h => by
    by_cases e : a = n + 1
    · subst e; exact Nat.le_refl _
    · exact Nat.le_trans (wt_mono c (by omega)) (Nat.le_mul_of_pos_right _ (Nat.succ_pos _))
theorem wt_dvd (c : Nat → Nat) {a : Nat} : ∀ {b : Nat}, a < b → ∃ t, wt c b = wt c a * (c a + 1) * t
  | 0, h => by omega
  | b + 1, h => by
    by_cases e : a = b
    · subst e; exact ⟨1, by rw [Nat.mul_one]; rfl⟩
    · obtain ⟨t, ht⟩ := wt_dvd c (a := a) (b := b) (by omega)
      exact ⟨t * (c b + 1), by show wt c b * (c b + 1) = _; rw [ht, Nat.mul_assoc]⟩
theorem dig_le (c : Nat → Nat) (a x : Nat) : dig c a x ≤ c a := Nat.le_of_lt_succ (Nat.mod_lt _ (Nat.succ_pos _))
/-- A digit grows by one. -/
theorem dig_add {c : Nat → Nat} {a x : Nat} (h : dig c a x < c a) (b : Nat) : dig c b (x + wt c a) = if b = a then dig c a x + 1 else dig c b x := by
  have hp := wt_pos c a
  by_cases e : b = a
  · subst e
    rw [if_pos rfl]
    unfold dig at h ⊢
    rw [Nat.add_div_right _ hp, Nat.add_mod, Nat.mod_eq_of_lt (a := 1) (by omega), Nat.mod_eq_of_lt (by omega)]
  · rw [if_neg e]
    rcases Nat.lt_or_gt_of_ne e with hlt | hgt
    · obtain ⟨t, ht⟩ := wt_dvd c hlt
      unfold dig
      rw [ht, Nat.mul_assoc, Nat.add_mul_div_left _ _ (wt_pos c b), Nat.add_mul_mod_self_left]
    · obtain ⟨t, ht⟩ := wt_dvd c hgt
      have key : (x + wt c a) / wt c b = x / wt c b := by
        rw [ht, ← Nat.div_div_eq_div_mul, ← Nat.div_div_eq_div_mul, ← Nat.div_div_eq_div_mul, ← Nat.div_div_eq_div_mul, Nat.add_div_right _ hp]
        congr 1
        unfold dig at h
        have h1 := Nat.div_add_mod (x / wt c a) (c a + 1)
        generalize x / wt c a = q at h h1 ⊢
        have h2 : q + 1 = (q % (c a + 1) + 1) + (c a + 1) * (q / (c a + 1)) := by omega
        rw [h2, Nat.add_mul_div_left _ _ (Nat.succ_pos _), Nat.div_eq_of_lt (by omega), Nat.zero_add]
      unfold dig
      rw [key]
theorem dig_lt {c : Nat → Nat} {a x L : Nat} (ha : a < L) (hx : x < wt c L) (h : dig c a x < c a) : x + wt c a < wt c L := by
  obtain ⟨t, ht⟩ := wt_dvd c ha
  have hp := wt_pos c a
  have hz : x / wt c L = 0 := Nat.div_eq_of_lt hx
  have key : (x + wt c a) / wt c L = 0 := by
    rw [← hz, ht, ← Nat.div_div_eq_div_mul, ← Nat.div_div_eq_div_mul, ← Nat.div_div_eq_div_mul, ← Nat.div_div_eq_div_mul, Nat.add_div_right _ hp]
    congr 1
    unfold dig at h
    have h1 := Nat.div_add_mod (x / wt c a) (c a + 1)
    generalize x / wt c a = q at h h1 ⊢
    have h2 : q + 1 = (q % (c a + 1) + 1) + (c a + 1) * (q / (c a + 1)) := by omega
    rw [h2, Nat.add_mul_div_left _ _ (Nat.succ_pos _), Nat.div_eq_of_lt (by omega), Nat.zero_add]
  exact (Nat.div_eq_zero_iff_lt (wt_pos c L)).1 key
theorem dig_zero (c : Nat → Nat) (a : Nat) : dig c a 0 = 0 := by simp [dig]
/-- All digits are as great as they can be at the last number alone. -/
theorem dig_full {c : Nat → Nat} : ∀ {L x : Nat}, x < wt c L → (∀ a < L, dig c a x = c a) → x + 1 = wt c L
  | 0, x, hx, _ => by simp [wt] at hx ⊢; omega
  | L + 1, x, hx, h => by
    have hp := wt_pos c L
    have h0 := h L (by omega)
    unfold dig at h0
    have hq : x / wt c L < c L + 1 := (Nat.div_lt_iff_lt_mul hp).2 (by rw [Nat.mul_comm]; exact hx)
    rw [Nat.mod_eq_of_lt hq] at h0
    have hr : x % wt c L < wt c L := Nat.mod_lt _ hp
    have h1 := dig_full (c := c) (L := L) hr fun a ha => by
      have h2 := h a (by omega)
      obtain ⟨t, ht⟩ := wt_dvd c ha
      rw [← h2]
      have h3 := Nat.div_add_mod x (wt c L)
      generalize x % wt c L = r at h3 ⊢
      generalize x / wt c L = q at h3
      unfold dig
      rw [← h3, ht]
      have e1 : wt c a * (c a + 1) * t * q + r = wt c a * ((c a + 1) * (t * q)) + r := by simp only [Nat.mul_assoc]
      rw [e1, Nat.mul_add_div (wt_pos c a), Nat.mul_add_mod]
    have h3 := Nat.div_add_mod x (wt c L)
    show x + 1 = wt c L * (c L + 1)
    rw [h0] at h3
    rw [Nat.mul_add, Nat.mul_one]
    omega
/-- A word without its first k a letters a. -/
def dropK : (Nat → Nat) → List Nat → List Nat
  | _, [] => []
  | k, b :: w => if k b = 0 then b :: dropK k w else dropK (fun x => if x = b then k b - 1 else k x) w
theorem dropK_sub : ∀ {w : List Nat} {k : Nat → Nat}, ∀ c ∈ dropK k w, c ∈ w
  | [], _, c, h => by simp [dropK] at h
  | b :: w, k, c, h => by
    unfold dropK at h
    split at h
    · rcases List.mem_cons.1 h with rfl | h
      · simp
      · exact List.mem_cons_of_mem _ (dropK_sub c h)
    · exact List.mem_cons_of_mem _ (dropK_sub c h)
theorem dropK_zero : ∀ {w : List Nat} {k : Nat → Nat}, (∀ a, k a = 0) → dropK k w = w
  | [], _, _ => rfl
  | b :: w, k, h => by
    unfold dropK
    rw [if_pos (h b), dropK_zero h]
theorem dropK_count : ∀ (w : List Nat) (k : Nat → Nat) (a : Nat), (dropK k w).count a = w.count a - k a
  | [], k, a => by simp [dropK]
  | b :: w, k, a => by
    unfold dropK
    split
    · rename_i h
      rw [List.count_cons, List.count_cons, dropK_count w k a]
      by_cases e : b = a
      · subst e; rw [h]; simp
      · have : (b == a) = false := by simpa using e
        rw [this]; simp
    · rename_i h
      rw [List.count_cons, dropK_count w _ a]
      by_cases e : b = a
      · subst e; simp; omega
      · have h1 : (b == a) = false := by simpa using e
        rw [h1, if_neg (Ne.symm e)]; simp
theorem dropK_keep {k : Nat → Nat} {b : Nat} (w : List Nat) (h : k b = 0) : dropK k (b :: w) = b :: dropK k w := by rw [dropK, if_pos h]
theorem dropK_skip {k : Nat → Nat} {b : Nat} (w : List Nat) (h : k b ≠ 0) : dropK k (b :: w) = dropK (fun x => if x = b then k b - 1 else k x) w := by rw [dropK, if_neg h]
theorem dropK_erase : ∀ {w : List Nat} {k : Nat → Nat} {a : Nat}, a ∈ dropK k w → (dropK k w).erase a = dropK (fun x => if x = a then k a + 1 else k x) w
  | [], _, _, h => by simp [dropK] at h
  | b :: w, k, a, h => by
    by_cases hk : k b = 0
    · rw [dropK_keep w hk] at h ⊢
      by_cases e : b = a
      · subst e
        rw [List.erase_cons_head, dropK_skip w (by simp)]
        congr 1
        funext x
        by_cases hx : x = b
        · subst hx; simp [hk]
        · simp [hx]
      · rw [List.erase_cons_tail (by simpa using e), dropK_erase ((List.mem_cons.1 h).resolve_left (Ne.symm e)), dropK_keep w (by simp [e, hk])]
    · rw [dropK_skip w hk] at h ⊢
      rw [dropK_erase h]
      by_cases e : b = a
      · subst e
        rw [dropK_skip w (by simp)]
        congr 1
        funext x
        by_cases hx : x = b
        · subst hx; simp; omega
        · simp [hx]
      · rw [dropK_skip w (by simp [e, hk])]
        congr 1
        funext x
        by_cases hx : x = a
        · subst hx
          simp [Ne.symm e]
        · by_cases hxb : x = b
          · subst hxb; simp [hx]
          · simp [hx, hxb]
/-- Is the letter at i the next one of its kind, with nothing before it that it depends on? -/
def enb (ms : List Nat) (k : Nat → Nat) (w : List Nat) (i : Nat) : Bool :=
  k (w.getD i 0) == num w i && (List.range i).all fun j => !(dep ms (w.getD j 0) (w.getD i 0) && decide (k (w.getD j 0) ≤ num w j))
theorem sumN_shift (f : Nat → Nat) : ∀ n, sumN f (n + 1) = f 0 + sumN (fun i => f (i + 1)) n
  | 0 => by simp [sumN]
  | n + 1 => by
    show sumN f (n + 1) + f (n + 1) = f 0 + (sumN (fun i => f (i + 1)) n + f (n + 1))
    rw [sumN_shift f n, Nat.add_assoc]
theorem num_cons (b : Nat) (w : List Nat) (i : Nat) : num (b :: w) (i + 1) = num w i + if w.getD i 0 = b then 1 else 0 := by
  unfold num
  rw [List.take_succ_cons, List.getD_cons_succ, List.count_cons]
  congr 1
  by_cases e : b = w.getD i 0
  · rw [if_pos (by simpa using e), if_pos e.symm]
  · rw [if_neg (by simpa using e), if_neg (Ne.symm e)]
theorem range_all_succ (p : Nat → Bool) (i : Nat) : (List.range (i + 1)).all p = (p 0 && (List.range i).all fun j => p (j + 1)) := by
  rw [List.range_succ_eq_map, List.all_cons, List.all_map]
  rfl
theorem enb_cons_pos {ms : List Nat} {k : Nat → Nat} {b : Nat} {w : List Nat} (hk : k b ≠ 0) (i : Nat) : enb ms k (b :: w) (i + 1) = enb ms (fun x => if x = b then k b - 1 else k x) w i := by
  unfold enb
  rw [range_all_succ, num_cons]
  simp only [List.getD_cons_succ, List.getD_cons_zero]
  have h0 : decide (k b ≤ num (b :: w) 0) = false := by
    have : num (b :: w) 0 = 0 := by simp [num]
    rw [this]
    exact decide_eq_false (by omega)
  rw [h0, Bool.and_false, Bool.not_false, Bool.true_and]
  congr 1
  · rw [Bool.eq_iff_iff, beq_iff_eq, beq_iff_eq]
    split
    · rename_i e; rw [e]; omega
    · exact Iff.rfl
  · refine congrArg (fun f => List.all (List.range i) f) (funext fun j => ?_)
    congr 2
    rw [num_cons, decide_eq_decide]
    split
    · rename_i e; rw [e]; omega
    · exact Iff.rfl
theorem enb_cons_zero {ms : List Nat} {k : Nat → Nat} {b : Nat} {w : List Nat} (hk : k b = 0) (i : Nat) : enb ms k (b :: w) (i + 1) = (decide (w.getD i 0 ≠ b) && !dep ms b (w.getD i 0) && enb ms k w i) := by
  unfold enb
  rw [range_all_succ, num_cons]
  simp only [List.getD_cons_succ, List.getD_cons_zero]
  have h0 : decide (k b ≤ num (b :: w) 0) = true := decide_eq_true (by omega)
  rw [h0, Bool.and_true]
  have hall : ((List.range i).all fun j => !(dep ms (w.getD j 0) (w.getD i 0) && decide (k (w.getD j 0) ≤ num (b :: w) (j + 1)))) = (List.range i).all fun j => !(dep ms (w.getD j 0) (w.getD i 0) && decide (k (w.getD j 0) ≤ num w j)) := by
    refine congrArg (fun f => List.all (List.range i) f) (funext fun j => ?_)
    congr 2
    rw [num_cons, decide_eq_decide]
    split
    · rename_i e; rw [e, hk]; omega
    · exact Iff.rfl
  rw [hall]
  by_cases e : w.getD i 0 = b
  · rw [e, hk, if_pos rfl]
    simp
  · rw [if_neg e, Nat.add_zero, decide_eq_true e, Bool.true_and]
    cases (k (w.getD i 0) == num w i) <;> cases dep ms b (w.getD i 0) <;> simp
/-- What can come next, by letters. -/
theorem sum_enb {ms : List Nat} (hA : Alpha ms) : ∀ (w : List Nat) (k : Nat → Nat) (g : Nat → Nat), Wd ms w → sumN (fun i => if enb ms k w i then g (w.getD i 0) else 0) w.length = sumN (fun a => if canF ms a (dropK k w) then g a else 0) ms.length
  | [], k, g, _ => by
    rw [sumN_zero (n := ms.length) fun i _ => by simp [dropK, canF]]
    rfl
  | b :: w, k, g, hw => by
    rw [List.length_cons, sumN_shift]
    have h0 : (b :: w).getD 0 0 = b := rfl
    have e0 : enb ms k (b :: w) 0 = (k b == 0) := by
      unfold enb
      simp [num]
    rw [e0, h0]
    by_cases hk : k b = 0
    · rw [if_pos (by simpa using hk)]
      have ih := sum_enb hA w k (fun a => if decide (a ≠ b) && !dep ms b a then g a else 0) hw.tail
      rw [sumN_congr (f := fun i => if enb ms k (b :: w) (i + 1) = true then g ((b :: w).getD (i + 1) 0) else 0) (g := fun i => if enb ms k w i = true then (if (decide (w.getD i 0 ≠ b) && !dep ms b (w.getD i 0)) = true then g (w.getD i 0) else 0) else 0) fun i _ => by
        rw [enb_cons_zero hk, List.getD_cons_succ]
        generalize (decide (w.getD i 0 ≠ b) && !dep ms b (w.getD i 0)) = x
        cases x <;> cases enb ms k w i <;> rfl]
      rw [ih]
      have hd : dropK k (b :: w) = b :: dropK k w := by rw [dropK, if_pos hk]
      rw [hd]
      have hsplit : sumN (fun a => if canF ms a (b :: dropK k w) = true then g a else 0) ms.length = sumN (fun a => (if a = b then g b else 0) + if canF ms a (dropK k w) = true then (if (decide (a ≠ b) && !dep ms b a) = true then g a else 0) else 0) ms.length := sumN_congr fun a ha => by
        have hc : canF ms a (b :: dropK k w) = (b == a || (!dep ms b a && canF ms a (dropK k w))) := rfl
        rw [hc]
        by_cases e : a = b
        · subst e; simp
        · have e' : (b == a) = false := by simpa using Ne.symm e
          rw [e', if_neg e, decide_eq_true e]
          cases dep ms b a <;> cases canF ms a (dropK k w) <;> simp
      rw [hsplit, sumN_add, sumN_one (f := fun a => if a = b then g b else 0) hw.head fun i _ hi => by simp [hi]]
      simp
    · rw [if_neg (by simpa using hk), Nat.zero_add]
      have hd : dropK k (b :: w) = dropK (fun x => if x = b then k b - 1 else k x) w := by rw [dropK, if_neg hk]
      rw [hd, ← sum_enb hA w _ g hw.tail]
      refine sumN_congr fun i _ => ?_
      rw [enb_cons_pos hk, List.getD_cons_succ]
end Go.Proofs.YtihdeagknggeiaaDoor
