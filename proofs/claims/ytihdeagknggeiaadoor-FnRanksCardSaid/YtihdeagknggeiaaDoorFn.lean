import Derived.Test.YtihdeagknggeiaaDoorFm
set_option autoImplicit false
set_option linter.unusedSimpArgs false
set_option linter.unusedVariables false
namespace Go.Proofs.YtihdeagknggeiaaDoor
open Go.Den
theorem sumN_congr {f g : Nat → Nat} : ∀ {n : Nat}, (∀ i < n, f i = g i) → sumN f n = sumN g n
  | 0, _ => rfl
  | n + 1, h => by
    show sumN f n + f n = sumN g n + g n
    rw [sumN_congr fun i hi => h i (by omega), h n (by omega)]
theorem sumN_mono {f g : Nat → Nat} : ∀ {n : Nat}, (∀ i < n, f i ≤ g i) → sumN f n ≤ sumN g n
  | 0, _ => Nat.le_refl _
  | n + 1, h => by
    have := sumN_mono (f := f) (g := g) (n := n) fun i hi => h i (by omega)
    have := h n (by omega)
    show sumN f n + f n ≤ sumN g n + g n
    omega
theorem sumN_mul (f : Nat → Nat) (c : Nat) : ∀ n, sumN (fun i => f i * c) n = sumN f n * c
  | 0 => by simp [sumN]
  | n + 1 => by
    show sumN (fun i => f i * c) n + f n * c = (sumN f n + f n) * c
    rw [sumN_mul f c n, Nat.add_mul]
theorem sumN_add (f g : Nat → Nat) : ∀ n, sumN (fun i => f i + g i) n = sumN f n + sumN g n
  | 0 => rfl
  | n + 1 => by
    show sumN (fun i => f i + g i) n + (f n + g n) = sumN f n + f n + (sumN g n + g n)
    rw [sumN_add f g n]
    omega
theorem sumN_zero {f : Nat → Nat} : ∀ {n : Nat}, (∀ i < n, f i = 0) → sumN f n = 0
  | 0, _ => rfl
  | n + 1, h => by
    show sumN f n + f n = 0
    rw [sumN_zero fun i hi => h i (by omega), h n (by omega)]
theorem sumN_one {f : Nat → Nat} {a : Nat} : ∀ {n : Nat}, a < n → (∀ i < n, i ≠ a → f i = 0) → sumN f n = f a
  | 0, h, _ => by omega
  | n + 1, h, hz => by
    show sumN f n + f n = f a
    by_cases e : a = n
    · subst e
      rw [sumN_zero fun i hi => hz i (by omega) (by omega), Nat.zero_add]
    · rw [sumN_one (by omega) fun i hi he => hz i (by omega) he, hz n (by omega) (by omega), Nat.add_zero]
theorem sumN_pos {f : Nat → Nat} {a : Nat} : ∀ {n : Nat}, a < n → f a ≤ sumN f n
  | 0, h => by omega
  | n + 1, h => by
    show f a ≤ sumN f n + f n
    by_cases e : a = n
    · subst e; omega
    · have := sumN_pos (f := f) (n := n) (a := a) (by omega)
      omega
/-- How many words a trace of k letters has. -/
def cls (ms : List Nat) : Nat → List Nat → Nat
  | 0, _ => 1
  | k + 1, w => sumN (fun a => if canF ms a w then cls ms k (w.erase a) else 0) ms.length
def clsW (ms w : List Nat) : Nat := cls ms w.length w
theorem cls_congr {ms : List Nat} (hA : Alpha ms) : ∀ (k : Nat) {u v : List Nat}, Eqv ms u v → cls ms k u = cls ms k v
  | 0, _, _, _ => rfl
  | k + 1, u, v, h => by
    rw [cls, cls]
    refine sumN_congr fun a ha => ?_
    rw [h.front hA ha]
    split
    · rename_i hv
      exact cls_congr hA k (h.erase hA (by rw [h.front hA ha]; exact hv) hv)
    · rfl
theorem clsW_congr {ms u v : List Nat} (hA : Alpha ms) (hu : Wd ms u) (hv : Wd ms v) (h : Eqv ms u v) : clsW ms u = clsW ms v := by
  unfold clsW
  rw [h.length hA hu hv, cls_congr hA _ h]
set_option maxHeartbeats 16000000 in
set_option maxRecDepth 100000 in
theorem clsW_nil (ms : List Nat) : clsW ms [] = 1 := rfl
theorem clsW_cons {ms w : List Nat} (hne : w ≠ []) : clsW ms w = sumN (fun a => if canF ms a w then clsW ms (w.erase a) else 0) ms.length := by
  have hl : 0 < w.length := List.length_pos_iff.2 hne
  obtain ⟨k, hk⟩ : ∃ k, w.length = k + 1 := ⟨w.length - 1, by omega⟩
  unfold clsW
  rw [hk, cls]
  refine sumN_congr fun a _ => ?_
  split
  · rename_i h
    rw [erase_length (canF_mem h), hk]
    rfl
  · rfl
theorem cls_pos {ms : List Nat} : ∀ (k : Nat) (w : List Nat), Wd ms w → w.length = k → 1 ≤ cls ms k w
  | 0, _, _, _ => Nat.le_refl _
  | k + 1, [], _, hl => by simp at hl
  | k + 1, c :: w, hw, hl => by
    rw [cls]
    refine Nat.le_trans ?_ (sumN_pos (a := c) hw.head)
    rw [if_pos (canF_head ..)]
    exact cls_pos k _ (hw.erase c) (by simpa using hl)
theorem clsW_pos {ms w : List Nat} (hw : Wd ms w) : 1 ≤ clsW ms w := cls_pos _ w hw rfl
/-! How many that can be. -/
def fct : Nat → Nat
  | 0 => 1
  | n + 1 => (n + 1) * fct n
def prF (c : Nat → Nat) : Nat → Nat
  | 0 => 1
  | n + 1 => prF c n * fct (c n)
theorem prF_congr {c d : Nat → Nat} : ∀ {n : Nat}, (∀ i < n, c i = d i) → prF c n = prF d n
  | 0, _ => rfl
  | n + 1, h => by
    show prF c n * fct (c n) = prF d n * fct (d n)
    rw [prF_congr fun i hi => h i (by omega), h n (by omega)]
theorem prF_step {c d : Nat → Nat} {a : Nat} : ∀ {n : Nat}, a < n → c a = d a + 1 → (∀ i, i ≠ a → c i = d i) → prF c n = c a * prF d n
  | 0, h, _, _ => by omega
  | n + 1, h, h1, h2 => by
    show prF c n * fct (c n) = c a * (prF d n * fct (d n))
    by_cases e : a = n
    · subst e
      rw [prF_congr (c := c) (d := d) fun i hi => h2 i (by omega), h1, fct]
      rw [Nat.mul_left_comm]
    · rw [prF_step (n := n) (by omega) h1 h2, h2 n (by omega), Nat.mul_assoc]
theorem sum_count {w : List Nat} {n : Nat} : (∀ c ∈ w, c < n) → sumN (fun a => w.count a) n = w.length := by
  induction w with
  | nil => intro _; exact sumN_zero fun i _ => by simp
  | cons c w ih =>
    intro h
    have h1 : ∀ a, (c :: w).count a = w.count a + if a = c then 1 else 0 := fun a => by
      rw [List.count_cons]
      by_cases e : c = a
      · subst e; simp
      · rw [if_neg (by simpa using e), if_neg (Ne.symm e)]
    rw [sumN_congr (g := fun a => w.count a + if a = c then 1 else 0) fun a _ => h1 a, sumN_add, ih fun x hx => h x (by simp [hx]), sumN_one (a := c) (h c (by simp)) fun i _ hi => by simp [hi]]
    simp
theorem cls_bound {ms : List Nat} {N : Nat} (hN : ms.length ≤ N) : ∀ (k : Nat) (w : List Nat), Wd ms w → w.length = k → cls ms k w * prF (fun a => w.count a) N ≤ fct k
  | 0, w, _, hl => by
    obtain rfl := List.length_eq_zero_iff.1 hl
    have : ∀ n, prF (fun a => ([] : List Nat).count a) n = 1 := fun n => by
      induction n with
      | zero => rfl
      | succ n ih => rw [prF, ih]; simp [fct]
    rw [this]
    simp [cls, fct]
  | k + 1, w, hw, hl => by
    rw [cls, ← sumN_mul]
    refine Nat.le_trans (sumN_mono (g := fun a => w.count a * fct k) fun a ha => ?_) ?_
    · split
      · rename_i h
        have hm := canF_mem h
        have h1 : w.count a = (w.erase a).count a + 1 := by
          rw [List.count_erase_self]
          have := List.count_pos_iff.2 hm
          omega
        rw [prF_step (c := fun b => w.count b) (d := fun b => (w.erase a).count b) (a := a) (by omega) h1 (fun i hi => by rw [List.count_erase_of_ne hi])]
        have := cls_bound hN k (w.erase a) (hw.erase a) (by rw [erase_length hm, hl]; rfl)
        rw [Nat.mul_left_comm]
        exact Nat.mul_le_mul_left _ this
      · simp
    · rw [sumN_mul, sum_count hw, hl, fct]
      exact Nat.le_refl _
theorem fct_low : ∀ m, 2 * 3 ^ m ≤ 9 * fct m
  | 0 => by decide
  | 1 => by decide
  | 2 => by decide
  | m + 3 => by
    have ih := fct_low (m + 2)
    rw [show m + 3 = (m + 2) + 1 from rfl, fct, Nat.pow_succ]
    calc 2 * (3 ^ (m + 2) * 3) = 3 * (2 * 3 ^ (m + 2)) := by omega
      _ ≤ 3 * (9 * fct (m + 2)) := Nat.mul_le_mul_left _ ih
      _ ≤ (m + 2 + 1) * (9 * fct (m + 2)) := Nat.mul_le_mul_right _ (by omega)
      _ = 9 * ((m + 2 + 1) * fct (m + 2)) := by rw [Nat.mul_left_comm]
theorem prF_low (c : Nat → Nat) : ∀ n, 2 ^ n * 3 ^ sumN c n ≤ 9 ^ n * prF c n
  | 0 => by simp [sumN, prF]
  | n + 1 => by
    have ih := prF_low c n
    have h := fct_low (c n)
    show 2 ^ (n + 1) * 3 ^ (sumN c n + c n) ≤ 9 ^ (n + 1) * (prF c n * fct (c n))
    calc 2 ^ (n + 1) * 3 ^ (sumN c n + c n) = (2 ^ n * 3 ^ sumN c n) * (2 * 3 ^ c n) := by
          rw [Nat.pow_succ, Nat.pow_add, Nat.mul_assoc, Nat.mul_assoc, Nat.mul_left_comm 2]
      _ ≤ (9 ^ n * prF c n) * (9 * fct (c n)) := Nat.mul_le_mul ih h
      _ = 9 ^ (n + 1) * (prF c n * fct (c n)) := by
          rw [Nat.pow_succ, Nat.mul_assoc, Nat.mul_assoc, Nat.mul_left_comm (prF c n)]
theorem fct_small : ∀ n < 25, fct n * 9 ^ 8 < 2 ^ 63 * (2 ^ 8 * 3 ^ n) := by decide +kernel
theorem clsW_small {ms w : List Nat} (hL : ms.length ≤ 8) (hw : Wd ms w) (hl : w.length ≤ 24) : clsW ms w < 2 ^ 63 := by
  have h1 := cls_bound (N := 8) hL _ w hw rfl
  have h2 := prF_low (fun a => w.count a) 8
  rw [sum_count fun c hc => Nat.lt_of_lt_of_le (hw c hc) hL] at h2
  have h3 := fct_small w.length (by omega)
  refine Nat.lt_of_not_le fun hn => ?_
  have h4 : clsW ms w * (2 ^ 8 * 3 ^ w.length) ≤ clsW ms w * (9 ^ 8 * prF (fun a => w.count a) 8) := Nat.mul_le_mul_left _ h2
  have h5 : clsW ms w * (9 ^ 8 * prF (fun a => w.count a) 8) ≤ 9 ^ 8 * fct w.length := by
    rw [Nat.mul_left_comm]
    exact Nat.mul_le_mul_left _ h1
  have h6 : 2 ^ 63 * (2 ^ 8 * 3 ^ w.length) ≤ clsW ms w * (2 ^ 8 * 3 ^ w.length) := Nat.mul_le_mul_right _ hn
  have h7 : 9 ^ 8 * fct w.length = fct w.length * 9 ^ 8 := Nat.mul_comm _ _
  generalize clsW ms w * (2 ^ 8 * 3 ^ w.length) = x at *
  generalize clsW ms w * (9 ^ 8 * prF (fun a => w.count a) 8) = y at *
  generalize 2 ^ 63 * (2 ^ 8 * 3 ^ w.length) = z at *
  omega
/-! Suffixes are told apart by their contents. -/
theorem pj_length (a b : Nat) (w : List Nat) : (pj a b w).length = if a = b then w.count a else w.count a + w.count b := by
  induction w with
  | nil => simp
  | cons c w ih =>
    simp only [pj, List.filter_cons, List.count_cons] at ih ⊢
    by_cases h1 : c = a
    · subst h1
      by_cases h2 : c = b
      · subst h2; simp at ih ⊢; omega
      · have h2' : (c == b) = false := by simpa using h2
        simp [h2, h2'] at ih ⊢; omega
    · have h1' : (c == a) = false := by simpa using h1
      by_cases h2 : c = b
      · subst h2
        have : ¬ a = c := Ne.symm h1
        simp [this, h1'] at ih ⊢; omega
      · have h2' : (c == b) = false := by simpa using h2
        simp [h1', h2']
        simpa using ih
theorem sfx_eqv {ms w u u' r r' : List Nat} (h : Eqv ms w (u ++ r)) (h' : Eqv ms w (u' ++ r')) (hc : ∀ a, r.count a = r'.count a) : Eqv ms r r' := fun a b hd => by
  have h1 := (h a b hd).symm.trans (h' a b hd)
  simp only [pj, List.filter_append] at h1
  refine List.append_inj_right' h1 ?_
  have := pj_length a b r
  have h2 := pj_length a b r'
  simp only [pj] at this h2
  rw [this, h2, hc, hc]
/-- The number of a content. -/
def ckey : List Nat → Nat
  | [] => 0
  | a :: w => 2 ^ (5 * a) + ckey w
theorem ckey_append (u : List Nat) : ∀ w, ckey (w ++ u) = ckey w + ckey u
  | [] => by simp [ckey]
  | a :: w => by simp only [List.cons_append, ckey, ckey_append u w]; omega
theorem ckey_sum {n : Nat} : ∀ {w : List Nat}, (∀ c ∈ w, c < n) → ckey w = sumN (fun a => w.count a * 32 ^ a) n
  | [], _ => by rw [sumN_zero fun i _ => by simp]; rfl
  | c :: w, h => by
    have h1 : ∀ a, (c :: w).count a * 32 ^ a = w.count a * 32 ^ a + if a = c then 32 ^ a else 0 := fun a => by
      rw [List.count_cons]
      by_cases e : c = a
      · subst e; simp [Nat.add_mul]
      · rw [if_neg (by simpa using e), if_neg (Ne.symm e)]; simp
    rw [ckey, ckey_sum fun x hx => h x (by simp [hx]), sumN_congr (g := fun a => w.count a * 32 ^ a + if a = c then 32 ^ a else 0) fun a _ => h1 a, sumN_add, sumN_one (a := c) (f := fun a => if a = c then 32 ^ a else 0) (h c (by simp)) fun i _ hi => by simp [hi]]
    rw [if_pos rfl, Nat.pow_mul, show (2 : Nat) ^ 5 = 32 from rfl]
    omega
theorem digits_lt {c : Nat → Nat} : ∀ {n : Nat}, (∀ a < n, c a < 32) → sumN (fun a => c a * 32 ^ a) n < 32 ^ n
  | 0, _ => by simp [sumN]
  | n + 1, h => by
    have h1 := digits_lt (n := n) fun a ha => h a (by omega)
    have h2 := h n (by omega)
    show sumN (fun a => c a * 32 ^ a) n + c n * 32 ^ n < 32 ^ (n + 1)
    have h3 : (c n + 1) * 32 ^ n ≤ 32 * 32 ^ n := Nat.mul_le_mul_right _ (by omega)
    rw [Nat.add_mul] at h3
    rw [Nat.pow_succ]
    omega
theorem digits_inj {c d : Nat → Nat} : ∀ n : Nat, (∀ a < n, c a < 32) → (∀ a < n, d a < 32) → sumN (fun a => c a * 32 ^ a) n = sumN (fun a => d a * 32 ^ a) n → ∀ a < n, c a = d a := fun n => by
  induction n with
  | zero => intro _ _ _ a ha; omega
  | succ n ih =>
    intro hc hd h a ha
    have h1 := digits_lt (c := c) (n := n) fun a ha => hc a (by omega)
    have h2 := digits_lt (c := d) (n := n) fun a ha => hd a (by omega)
    have h' : sumN (fun a => c a * 32 ^ a) n + c n * 32 ^ n = sumN (fun a => d a * 32 ^ a) n + d n * 32 ^ n := h
    have hp : 0 < 32 ^ n := Nat.pow_pos (by decide)
    have e1 : c n = d n := by
      have := congrArg (· / 32 ^ n) h'
      simp only [Nat.add_mul_div_right _ _ hp, Nat.div_eq_of_lt h1, Nat.div_eq_of_lt h2, Nat.zero_add] at this
      exact this
    by_cases e : a = n
    · rw [e, e1]
    · rw [e1] at h'
      exact ih (fun a ha => hc a (by omega)) (fun a ha => hd a (by omega)) (by omega) a (by omega)
theorem ckey_inj {ms u v : List Nat} (hu : Wd ms u) (hv : Wd ms v) (hul : u.length ≤ 31) (hvl : v.length ≤ 31) (h : ckey u = ckey v) : ∀ a, u.count a = v.count a := fun a => by
  rw [ckey_sum hu, ckey_sum hv] at h
  by_cases ha : a < ms.length
  · exact digits_inj (c := fun a => u.count a) (d := fun a => v.count a) _ (fun a _ => Nat.lt_succ_of_le (Nat.le_trans List.count_le_length hul)) (fun a _ => Nat.lt_succ_of_le (Nat.le_trans List.count_le_length hvl)) h a ha
  · rw [List.count_eq_zero.2 fun hm => ha (hu a hm), List.count_eq_zero.2 fun hm => ha (hv a hm)]
end Go.Proofs.YtihdeagknggeiaaDoor
