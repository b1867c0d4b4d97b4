import Derived.Test.YtihdeagknggeiaaDoorFy
set_option autoImplicit false
set_option linter.unusedSimpArgs false
set_option linter.unusedVariables false
namespace Go.Proofs.YtihdeagknggeiaaDoor
open Go.Den
/-! Numbers with mixed digits. -/
def wgt (c : List Nat) : Nat → Nat
  | 0 => 1
  | a + 1 => wgt c a * (c.getD a 0 + 1)
def digit (c : List Nat) (m a : Nat) : Nat := m / wgt c a % (c.getD a 0 + 1)
def digL (c : List Nat) (m : Nat) : List Nat := (List.range c.length).map (digit c m)
theorem digL_len (c : List Nat) (m : Nat) : (digL c m).length = c.length := by simp [digL]
theorem digL_get (c : List Nat) (m : Nat) {a : Nat} (h : a < c.length) : (digL c m).getD a 0 = digit c m a := by
  unfold digL
  rw [List.getD_eq_getElem?_getD, List.getElem?_map, List.getElem?_range h]
  rfl
theorem wgt_pos (c : List Nat) : ∀ a, 0 < wgt c a
  | 0 => Nat.one_pos
  | a + 1 => Nat.mul_pos (wgt_pos c a) (Nat.succ_pos _)
theorem wgt_mod (c : List Nat) (m : Nat) : ∀ n, m % wgt c n = smN (fun a => digit c m a * wgt c a) n
  | 0 => Nat.mod_one m
  | n + 1 => by
    rw [wgt, Nat.mod_mul, wgt_mod c m n, smN, digit, Nat.mul_comm]
theorem wgt_dvd (c : List Nat) (a : Nat) : ∀ d, wgt c a ∣ wgt c (a + d)
  | 0 => Nat.dvd_refl _
  | d + 1 => Nat.dvd_trans (wgt_dvd c a d) ⟨_, rfl⟩
theorem numb_lt {c : List Nat} {d : Nat → Nat} : ∀ n, (∀ a < n, d a ≤ c.getD a 0) → smN (fun a => d a * wgt c a) n < wgt c n
  | 0, _ => Nat.one_pos
  | n + 1, h => by
    have h1 := numb_lt n fun a ha => h a (by omega)
    have h2 := h n (by omega)
    have h3 : d n * wgt c n ≤ c.getD n 0 * wgt c n := Nat.mul_le_mul_right _ h2
    rw [smN, wgt, Nat.mul_add, Nat.mul_one, Nat.mul_comm (wgt c n)]
    omega
theorem numb_mod {c : List Nat} {d : Nat → Nat} {a : Nat} (h : ∀ b < a, d b ≤ c.getD b 0) : ∀ k, smN (fun a => d a * wgt c a) (a + k) % wgt c a = smN (fun a => d a * wgt c a) a
  | 0 => Nat.mod_eq_of_lt (numb_lt a h)
  | k + 1 => by
    show (smN (fun a => d a * wgt c a) (a + k) + d (a + k) * wgt c (a + k)) % wgt c a = _
    obtain ⟨q, hq⟩ := wgt_dvd c a k
    rw [hq, show d (a + k) * (wgt c a * q) = wgt c a * (d (a + k) * q) by rw [Nat.mul_left_comm], Nat.add_mul_mod_self_left, numb_mod h k]
theorem digit_numb {c : List Nat} {d : Nat → Nat} {n a : Nat} (ha : a < n) (h : ∀ b < n, d b ≤ c.getD b 0) : digit c (smN (fun a => d a * wgt c a) n) a = d a := by
  unfold digit
  rw [← Nat.mod_mul_right_div_self]
  have h1 := numb_mod (c := c) (d := d) (a := a + 1) (fun b hb => h b (by omega)) (n - (a + 1))
  rw [show a + 1 + (n - (a + 1)) = n by omega, wgt] at h1
  rw [h1, smN]
  have h2 := numb_lt (c := c) (d := d) a fun b hb => h b (by omega)
  rw [Nat.add_mul_div_right _ _ (wgt_pos c a), Nat.div_eq_of_lt h2, Nat.zero_add]
theorem digit_le (c : List Nat) (m a : Nat) : digit c m a ≤ c.getD a 0 := by
  have := Nat.mod_lt (m / wgt c a) (show 0 < c.getD a 0 + 1 by omega)
  unfold digit
  omega
theorem digit_zero (c : List Nat) (a : Nat) : digit c 0 a = 0 := by simp [digit]
theorem smN_sub {f g : Nat → Nat} : ∀ n, (∀ a < n, g a ≤ f a) → smN (fun a => f a - g a) n + smN g n = smN f n
  | 0, _ => rfl
  | n + 1, h => by
    have h1 := smN_sub n fun a ha => h a (by omega)
    have h2 := h n (by omega)
    rw [smN, smN, smN]
    omega
/-- The weights of a set's letters. -/
def dropW (c : List Nat) (s : Nat) (a : Nat) : Nat := smN (fun b => if s.testBit b then wgt c b else 0) a
def okA (c : List Nat) (s m : Nat) (a : Nat) : Bool := (List.range a).all fun b => !s.testBit b || decide (0 < digit c m b)
theorem okA_succ (c : List Nat) (s m a : Nat) : okA c s m (a + 1) = (okA c s m a && (!s.testBit a || decide (0 < digit c m a))) := by
  unfold okA
  rw [List.range_succ, List.all_append]
  simp
theorem okA_iff {c : List Nat} {s m a : Nat} : okA c s m a = true ↔ ∀ b < a, s.testBit b = true → 0 < digit c m b := by
  unfold okA
  rw [List.all_eq_true]
  constructor
  · intro h b hb hs
    have := h b (List.mem_range.2 hb)
    rw [hs] at this
    simpa using this
  · intro h b hb
    cases hs : s.testBit b with
    | false => rfl
    | true => have := h b (List.mem_range.1 hb) hs; simpa using this
theorem useC_ok {c : List Nat} {s m : Nat} (h0 : s ≠ 0) (hs : s < 2 ^ c.length) (hl : c.length ≤ 62) : useC (digL c m) s = okA c s m c.length := by
  have hs63 : s < 2 ^ 63 := Nat.lt_of_lt_of_le hs (Nat.pow_le_pow_right (by decide) (by omega))
  have hb : ∀ b, s.testBit b = true → b < c.length := fun b hb => by
    refine Nat.lt_of_not_le fun hn => ?_
    rw [Nat.testBit_lt_two_pow (Nat.lt_of_lt_of_le hs (Nat.pow_le_pow_right (by decide) hn))] at hb
    cases hb
  rw [Bool.eq_iff_iff, okA_iff]
  constructor
  · intro h b hbl hsb
    have := ((useC_bits hs63 h).2 b hsb).2
    rwa [digL_get _ _ hbl] at this
  · intro h
    unfold useC
    rw [decide_eq_true h0, Bool.true_and, decide_eq_true_eq]
    refine Nat.eq_of_testBit_eq fun b => ?_
    rw [andn_bit _ _ hs63, Nat.zero_testBit]
    cases hsb : s.testBit b with
    | false => rfl
    | true =>
      have hbl := hb b hsb
      unfold thrC
      rw [maskN_bit, digL_len, decide_eq_true hbl, digL_get _ _ hbl, decide_eq_true (h b hbl hsb)]
      rfl
/-- A step is taken away. -/
theorem less_digits {c : List Nat} {s m : Nat} (hm : m < wgt c c.length) (h : okA c s m c.length = true) : dropW c s c.length ≤ m ∧ digL c (m - dropW c s c.length) = lessC s (digL c m) := by
  rw [okA_iff] at h
  have h1 := wgt_mod c m c.length
  rw [Nat.mod_eq_of_lt hm] at h1
  have h2 := smN_sub (f := fun a => digit c m a * wgt c a) (g := fun b => if s.testBit b then wgt c b else 0) c.length (fun a ha => by
    by_cases hs : s.testBit a = true
    · rw [if_pos hs]
      exact Nat.le_mul_of_pos_left _ (h a ha hs)
    · rw [if_neg hs]
      exact Nat.zero_le _)
  rw [← h1] at h2
  have h3 : smN (fun a => digit c m a * wgt c a - if s.testBit a then wgt c a else 0) c.length = smN (fun a => (digit c m a - if s.testBit a then 1 else 0) * wgt c a) c.length := smN_congr _ fun a ha => by
    by_cases hs : s.testBit a = true
    · rw [if_pos hs, if_pos hs, Nat.sub_mul, Nat.one_mul]
    · rw [if_neg hs, if_neg hs, Nat.sub_zero, Nat.sub_zero]
  have h4 : dropW c s c.length ≤ m := by unfold dropW; omega
  refine ⟨h4, ?_⟩
  have h5 : m - dropW c s c.length = smN (fun a => (digit c m a - if s.testBit a then 1 else 0) * wgt c a) c.length := by
    unfold dropW
    omega
  refine list_eq (by rw [digL_len, lessC_len, digL_len]) fun a ha => ?_
  rw [digL_len] at ha
  rw [digL_get _ _ ha, lessC_get _ _ (by rw [digL_len]; exact ha), digL_get _ _ ha, h5]
  exact digit_numb (d := fun a => digit c m a - if s.testBit a then 1 else 0) ha fun b _ => Nat.le_trans (Nat.sub_le _ _) (digit_le c m b)
theorem thr_pos {c : List Nat} {m : Nat} (hm : m < wgt c c.length) (h0 : m ≠ 0) : thrC (digL c m) (digL c m).length ≠ 0 := fun h => by
  have h1 := thrC_zero h
  have h2 := wgt_mod c m c.length
  rw [Nat.mod_eq_of_lt hm] at h2
  have h3 : smN (fun a => digit c m a * wgt c a) c.length = smN (fun _ => 0) c.length := smN_congr _ fun a ha => by
    have := h1 a (by rw [digL_len]; exact ha)
    rw [digL_get _ _ ha] at this
    rw [this, Nat.zero_mul]
  rw [h3, smN_zero] at h2
  exact h0 h2
theorem digL_zero (c : List Nat) : thrC (digL c 0) (digL c 0).length = 0 := Nat.eq_of_testBit_eq fun a => by
  unfold thrC
  rw [maskN_bit, Nat.zero_testBit]
  by_cases ha : a < (digL c 0).length
  · rw [digL_get _ _ (by rw [digL_len] at ha; exact ha), digit_zero]
    simp
  · rw [decide_eq_false ha, Bool.false_and]
theorem digL_last {c : List Nat} : digL c (wgt c c.length - 1) = c := by
  have h1 : ∀ n, smN (fun a => c.getD a 0 * wgt c a) n = wgt c n - 1 := fun n => by
    induction n with
    | zero => rfl
    | succ n ih =>
      have := wgt_pos c n
      rw [smN, ih, wgt, Nat.mul_add, Nat.mul_one, Nat.mul_comm (wgt c n)]
      omega
  refine list_eq (digL_len _ _) fun a ha => ?_
  rw [digL_len] at ha
  rw [digL_get _ _ ha, ← h1, digit_numb ha fun _ _ => Nat.le_refl _]
theorem wgt_le {c : List Nat} (h : ∀ x ∈ c, x ≤ 24) : ∀ n, wgt c n ≤ 25 ^ n
  | 0 => Nat.le_refl _
  | n + 1 => by
    have := getD_le h n
    rw [wgt, Nat.pow_succ]
    exact Nat.mul_le_mul (wgt_le h n) (by omega)
theorem wgt_mono (c : List Nat) {a b : Nat} (h : a ≤ b) : wgt c a ≤ wgt c b := by
  obtain ⟨d, rfl⟩ : ∃ d, b = a + d := ⟨b - a, by omega⟩
  exact Nat.le_of_dvd (wgt_pos c _) (wgt_dvd c a d)
theorem dropW_le {c : List Nat} (s : Nat) {n : Nat} : ∀ a, a ≤ n → dropW c s a ≤ a * wgt c n := fun a ha => by
  unfold dropW
  refine Nat.le_trans (smN_upto (f := fun b => if s.testBit b then wgt c b else 0) (L := n) (b := wgt c n) (fun b hb => ?_) a ha) (Nat.le_refl _)
  split
  · exact wgt_mono c (by omega)
  · exact Nat.zero_le _
/-- The table, as far as it is filled. -/
def arrC (S : List Nat) (c : List Nat) (m : Nat) (x : Int) : List Int := (List.range (wgt c c.length)).map fun j => if j < m then valC S (digL c j) else if j = m then x else 0
theorem arrC_len (S c : List Nat) (m : Nat) (x : Int) : (arrC S c m x).length = wgt c c.length := by simp [arrC]
theorem arrC_get (S c : List Nat) (m : Nat) (x : Int) {j : Nat} (h : j < (arrC S c m x).length) : (arrC S c m x)[j] = if j < m then valC S (digL c j) else if j = m then x else 0 := by simp [arrC]
theorem arrC_set (S c : List Nat) {m : Nat} (x y : Int) : (arrC S c m x).set m y = arrC S c m y := by
  refine List.ext_getElem (by rw [List.length_set, arrC_len, arrC_len]) fun j h1 h2 => ?_
  rw [List.length_set] at h1
  rw [List.getElem_set, arrC_get _ _ _ _ h1, arrC_get _ _ _ _ h2]
  by_cases e : m = j
  · subst e
    rw [if_pos rfl, if_neg (Nat.lt_irrefl _), if_pos rfl]
  · rw [if_neg e]
    by_cases hj : j < m
    · rw [if_pos hj, if_pos hj]
    · rw [if_neg hj, if_neg hj, if_neg fun h => e h.symm, if_neg fun h => e h.symm]
theorem arrC_next (S c : List Nat) (m : Nat) : arrC S c m (valC S (digL c m)) = arrC S c (m + 1) 0 := by
  unfold arrC
  refine List.map_congr_left fun j _ => ?_
  by_cases h1 : j < m
  · rw [if_pos h1, if_pos (by omega)]
  · rw [if_neg h1]
    by_cases h2 : j = m
    · rw [if_pos h2, if_pos (by omega), h2]
    · rw [if_neg h2, if_neg (by omega)]
      split <;> rfl
theorem arrC_zero (S c : List Nat) : arrC S c 0 0 = List.replicate (wgt c c.length) 0 := by
  unfold arrC
  rw [List.eq_replicate_iff]
  refine ⟨by simp, fun x hx => ?_⟩
  obtain ⟨j, -, rfl⟩ := List.mem_map.1 hx
  rw [if_neg (Nat.not_lt_zero _)]
  split <;> rfl
theorem accC_one {S : List Nat} {c : List Nat} (h : S[0]? = some 0) : accC S c 1 = 0 := by
  obtain ⟨h1, h2⟩ := List.getElem?_eq_some_iff.1 h
  rw [accC_succ h1 h2, if_neg (by unfold useC; simp)]
  rfl
theorem stepL_zero (D : Nat → Nat → Bool) (n : Nat) : (stepL D n)[0]? = some 0 := by
  have hp := Nat.two_pow_pos n
  obtain ⟨k, hk⟩ : ∃ k, 2 ^ n = k + 1 := ⟨2 ^ n - 1, by omega⟩
  have h0 : stpR D n 0 = true := stpR_iff.2 fun a _ ha => by rw [Nat.zero_testBit] at ha; cases ha
  unfold stepL
  rw [hk, List.range_succ_eq_map, List.filter_cons, if_pos h0]
  rfl
theorem stepL_pos (D : Nat → Nat → Bool) (n : Nat) {i : Nat} (hi : i < (stepL D n).length) (h0 : 0 < i) : (stepL D n)[i] ≠ 0 := by
  have h1 := List.pairwise_iff_getElem.1 (stepL_sorted D n) 0 i (by omega) hi h0
  omega
end Go.Proofs.YtihdeagknggeiaaDoor
