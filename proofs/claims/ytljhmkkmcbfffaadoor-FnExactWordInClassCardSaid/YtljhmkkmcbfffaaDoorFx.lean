import Derived.Test.YtljhmkkmcbfffaaDoorFw
set_option autoImplicit false
set_option linter.unusedSimpArgs false
set_option linter.unusedVariables false
namespace Go.Proofs.YtljhmkkmcbfffaaDoor
open Go.Den
theorem sumN_upto (f : Nat → Nat) {a : Nat} : ∀ {n : Nat}, a ≤ n → sumN f a ≤ sumN f n
  | 0, h => by
    obtain rfl : a = 0 := by omega
    exact Nat.le_refl _
  | n + 1, h => by
    by_cases e : a = n + 1
    · subst e; exact Nat.le_refl _
    · have := sumN_upto f (a := a) (n := n) (by omega)
      show _ ≤ sumN f n + f n
      omega
/-- How many words begin with b. -/
def trk (ms r : List Nat) (b : Nat) : Nat := if canF ms b r then clsW ms (r.erase b) else 0
theorem trk_t {ms r : List Nat} {b : Nat} (h : canF ms b r = true) : trk ms r b = clsW ms (r.erase b) := by unfold trk; rw [if_pos h]
theorem trk_f {ms r : List Nat} {b : Nat} (h : canF ms b r = false) : trk ms r b = 0 := by unfold trk; rw [if_neg (by rw [h]; simp)]
theorem clsW_trk {ms r : List Nat} (h : r ≠ []) : clsW ms r = sumN (trk ms r) ms.length := clsW_cons h
/-- The rank of a word among those of its trace. -/
def rkN (ms : List Nat) : List Nat → Nat
  | [] => 0
  | a :: w => sumN (trk ms (a :: w)) a + rkN ms w
theorem trk_le {ms r : List Nat} {a b : Nat} (h : b < a) (ha : a ≤ ms.length) (hr : r ≠ []) : sumN (trk ms r) b + trk ms r b ≤ sumN (trk ms r) a ∧ sumN (trk ms r) a ≤ clsW ms r := by
  rw [clsW_trk hr]
  exact ⟨sumN_upto (trk ms r) (a := b + 1) (by omega), sumN_upto _ ha⟩
theorem trk_head {ms w : List Nat} {a : Nat} (ha : a < ms.length) : sumN (trk ms (a :: w)) a + clsW ms w ≤ clsW ms (a :: w) := by
  have h1 := sumN_upto (trk ms (a :: w)) (a := a + 1) (n := ms.length) ha
  rw [clsW_trk (r := a :: w) (by simp)]
  have h2 : trk ms (a :: w) a = clsW ms w := by rw [trk_t (canF_head ..), List.erase_cons_head]
  have h3 : sumN (trk ms (a :: w)) (a + 1) = sumN (trk ms (a :: w)) a + trk ms (a :: w) a := rfl
  omega
theorem rkN_lt {ms : List Nat} : ∀ {w : List Nat}, Wd ms w → rkN ms w < clsW ms w
  | [], _ => by rw [clsW_nil, rkN]; omega
  | a :: w, h => by
    have h1 := rkN_lt (ms := ms) (w := w) h.tail
    have h2 := trk_head (w := w) h.head
    rw [rkN]
    omega
theorem rkN_drop {ms w : List Nat} {i : Nat} (h : i < w.length) : rkN ms (w.drop i) = sumN (trk ms (w.drop i)) (w.getD i 0) + rkN ms (w.drop (i + 1)) := by
  rw [drop_getD h]
  rfl
theorem cls_drop {ms w : List Nat} {i : Nat} (hw : Wd ms w) (h : i < w.length) : sumN (trk ms (w.drop i)) (w.getD i 0) + clsW ms (w.drop (i + 1)) ≤ clsW ms (w.drop i) := by
  rw [drop_getD h]
  exact trk_head (wd_lt hw h)
theorem wd_drop {ms w : List Nat} (hw : Wd ms w) (i : Nat) : Wd ms (w.drop i) := fun c hc => hw c (List.mem_of_mem_drop hc)
theorem sfx_drop {ms w : List Nat} (i : Nat) : ∃ u, Eqv ms w (u ++ w.drop i) := ⟨w.take i, by rw [List.take_append_drop]; exact .refl _ _⟩
theorem clsR_ok {n : Int} {ds xs : List Int} (h : (clsR n ds xs).2 = 0) : ∃ ms w : List Nat, ds.map Int.toNat = ms ∧ xs.map Int.toNat = w ∧ n = ms.length ∧ ds = natI ms ∧ ms.length ≤ 8 ∧ Alpha ms ∧ xs = natI w ∧ w.length ≤ 24 ∧ Wd ms w ∧ clsW ms w ≤ 1000000000000000 ∧ clsR n ds xs = (((clsW ms w : Nat) : Int), 0) := by
  cases ha : alphaOk n ds with
  | false => rw [clsR_bad ha] at h; cases h
  | true =>
    cases hw : wordN n xs with
    | false => rw [clsR_out ha hw] at h; cases h
    | true =>
      obtain ⟨ms, e1, rfl, rfl, hl, hA⟩ := alpha_ok ha
      obtain ⟨w, e2, rfl, hwl, hwc⟩ := word_nat hw
      rw [clsR_in ha hw e1 e2] at h ⊢
      split at h
      · cases h
      · rename_i hlt
        rw [if_neg hlt]
        exact ⟨ms, w, e1, e2, rfl, rfl, hl, hA, rfl, hwl, word_wd hwc, by omega, rfl⟩
/-- What RankInClass answers. -/
def rnkR (n : Int) (ds xs : List Int) : Int × Int := if (clsR n ds xs).2 = 0 then (((rkN (ds.map Int.toNat) (xs.map Int.toNat) : Nat) : Int), 0) else (0, (clsR n ds xs).2)
theorem rnkR_bad {n : Int} {ds xs : List Int} (h : (clsR n ds xs).2 ≠ 0) : rnkR n ds xs = (0, (clsR n ds xs).2) := by
  unfold rnkR
  rw [if_neg h]
theorem rnkR_ok {n : Int} {ds xs : List Int} {ms w : List Nat} (h : (clsR n ds xs).2 = 0) (e1 : ds.map Int.toNat = ms) (e2 : xs.map Int.toNat = w) : rnkR n ds xs = (((rkN ms w : Nat) : Int), 0) := by
  unfold rnkR
  rw [if_pos h, e1, e2]
/-- The letters below a that can be taken away from the front. -/
def fstB (ms r : List Nat) (a : Nat) : List Nat := (List.range a).filter fun b => canF ms b r
theorem mask_below (p : Nat → Bool) {n a : Nat} (h : a ≤ n) : maskN p n &&& (2 ^ a - 1) = maskN p a := by
  refine Nat.eq_of_testBit_eq fun i => ?_
  rw [Nat.testBit_and, maskN_bit, maskN_bit, Nat.testBit_two_pow_sub_one]
  by_cases hi : i < a
  · rw [decide_eq_true hi, decide_eq_true (by omega), Bool.and_true]
  · rw [decide_eq_false hi, Bool.and_false, Bool.false_and]
theorem fstB_sum (ms r : List Nat) (a : Nat) : ((fstB ms r a).map fun b => clsW ms (r.erase b)).sum = sumN (trk ms r) a := sum_filter _ _ a
theorem fstB_mem {ms r : List Nat} {a b : Nat} : b ∈ fstB ms r a ↔ b < a ∧ canF ms b r = true := by
  unfold fstB
  rw [List.mem_filter, List.mem_range]
theorem sum_take_le (l : List Nat) (i : Nat) : (l.take i).sum ≤ l.sum := by
  conv => rhs; rw [← List.take_append_drop i l]
  rw [List.sum_append]
  omega
theorem goC_val {ms w r : List Nat} {es : MemoN} (hA : Alpha ms) (hl : r.length ≤ 24) (hr : Wd ms r) (hu : ∃ u, Eqv ms w (u ++ r)) (hk : KnownC ms w es) (hc : clsW ms r ≤ 1000000000000000) : (goC ms r.length r es).1 = clsW ms r ∧ KnownC ms w (goC ms r.length r es).2 := by
  obtain ⟨h1, h2⟩ := goC_known hA r.length hl r es rfl hr hu hk
  exact ⟨by omega, h2⟩
end Go.Proofs.YtljhmkkmcbfffaaDoor
