import Derived.Test.YtihdeagknggeiaaDoorFw
set_option autoImplicit false
set_option linter.unusedSimpArgs false
set_option linter.unusedVariables false
namespace Go.Proofs.YtihdeagknggeiaaDoor
open Go.Den
/-! Sets of independent letters as numbers. -/
def stpR (D : Nat → Nat → Bool) : Nat → Nat → Bool
  | 0, _ => true
  | n + 1, m => stpR D n m && (!m.testBit n || (List.range n).all fun b => !(m.testBit b && D n b))
def blkR (B : Nat → Bool) : Nat → Nat → Bool
  | 0, _ => true
  | n + 1, m => blkR B n m && !(m.testBit n && B n)
def popR : Nat → Nat → Nat
  | 0, _ => 0
  | n + 1, m => popR n m + (if m.testBit n then 1 else 0)
theorem stpR_congr {D : Nat → Nat → Bool} : ∀ {n m m' : Nat}, (∀ b < n, m.testBit b = m'.testBit b) → stpR D n m = stpR D n m'
  | 0, _, _, _ => rfl
  | n + 1, m, m', h => by
    rw [stpR, stpR, stpR_congr (n := n) fun b hb => h b (by omega), h n (by omega)]
    congr 2
    rw [Bool.eq_iff_iff, List.all_eq_true, List.all_eq_true]
    refine ⟨fun hh b hb => ?_, fun hh b hb => ?_⟩
    · rw [← h b (by have := List.mem_range.1 hb; omega)]; exact hh b hb
    · rw [h b (by have := List.mem_range.1 hb; omega)]; exact hh b hb
theorem blkR_congr {B : Nat → Bool} : ∀ {n m m' : Nat}, (∀ b < n, m.testBit b = m'.testBit b) → blkR B n m = blkR B n m'
  | 0, _, _, _ => rfl
  | n + 1, m, m', h => by rw [blkR, blkR, blkR_congr (n := n) fun b hb => h b (by omega), h n (by omega)]
theorem popR_congr : ∀ {n m m' : Nat}, (∀ b < n, m.testBit b = m'.testBit b) → popR n m = popR n m'
  | 0, _, _, _ => rfl
  | n + 1, m, m', h => by rw [popR, popR, popR_congr (n := n) fun b hb => h b (by omega), h n (by omega)]
theorem blkR_more {B : Nat → Bool} {K : Nat → Bool} : ∀ {n m : Nat}, (blkR B n m && (List.range n).all fun b => !(m.testBit b && K b)) = blkR (fun b => B b || K b) n m
  | 0, _ => rfl
  | n + 1, m => by
    rw [blkR, blkR, ← blkR_more (n := n), List.range_succ, List.all_append]
    simp only [List.all_cons, List.all_nil, Bool.and_true]
    cases blkR B n m <;> cases (List.range n).all (fun b => !(m.testBit b && K b)) <;> cases m.testBit n <;> cases B n <;> cases K n <;> rfl
theorem filt_len {α : Type} {p q : α → Bool} : ∀ {l : List α}, (∀ x ∈ l, p x = q x) → (l.filter p).length = (l.filter q).length
  | [], _ => rfl
  | x :: l, h => by
    have ih := filt_len (l := l) fun y hy => h y (List.mem_cons_of_mem _ hy)
    rw [List.filter_cons, List.filter_cons, h x (by simp)]
    split
    · rw [List.length_cons, List.length_cons, ih]
    · exact ih
theorem filt_none {α : Type} {p : α → Bool} {l : List α} (h : ∀ x ∈ l, p x = false) : (l.filter p).length = 0 := by
  rw [filt_len (q := fun _ => false) h]
  simp
/-- How many sets of k independent letters there are. -/
theorem steps_count {D : Nat → Nat → Bool} : ∀ (n : Nat) (B : Nat → Bool) (k : Nat), ((List.range (2 ^ n)).filter fun m => stpR D n m && blkR B n m && decide (popR n m = k)).length = indB D (dnL n) B k
  | 0, B, k => by
    cases k with
    | zero => rfl
    | succ k => rfl
  | n + 1, B, k => by
    have hlow : ∀ m ∈ List.range (2 ^ n), m.testBit n = false := fun m hm => Nat.testBit_lt_two_pow (List.mem_range.1 hm)
    have hhi : ∀ m, m < 2 ^ n → (2 ^ n + m).testBit n = true ∧ ∀ b < n, (2 ^ n + m).testBit b = m.testBit b := fun m hm => by
      refine ⟨?_, fun b hb => Nat.testBit_two_pow_add_gt hb m⟩
      rw [Nat.testBit_two_pow_add_eq, Nat.testBit_lt_two_pow hm]
      rfl
    rw [show 2 ^ (n + 1) = 2 ^ n + 2 ^ n by rw [Nat.pow_succ]; omega, List.range_add, List.filter_append, List.length_append, List.filter_map, List.length_map]
    have h1 : ((List.range (2 ^ n)).filter fun m => stpR D (n + 1) m && blkR B (n + 1) m && decide (popR (n + 1) m = k)).length = indB D (dnL n) B k := by
      rw [← steps_count n B k]
      refine filt_len fun m hm => ?_
      rw [stpR, blkR, popR, hlow m hm]
      simp
    rw [h1]
    cases k with
    | zero =>
      rw [filt_none fun m hm => ?_]
      · rw [show indB D (dnL n) B 0 = 1 by cases n <;> rfl, show indB D (dnL (n + 1)) B 0 = 1 from rfl]
      · obtain ⟨h2, -⟩ := hhi m (List.mem_range.1 hm)
        show (_ && decide (popR (n + 1) (2 ^ n + m) = 0)) = false
        rw [popR, h2]
        simp
    | succ k =>
      rw [dnL, indB]
      congr 1
      by_cases hB : B n = true
      · rw [if_pos hB]
        refine filt_none fun m hm => ?_
        obtain ⟨h2, -⟩ := hhi m (List.mem_range.1 hm)
        show (_ && blkR B (n + 1) (2 ^ n + m) && _) = false
        rw [blkR, h2, hB]
        simp
      · have hB : B n = false := by simpa using hB
        rw [if_neg (by rw [hB]; simp), ← steps_count n (fun b => B b || D n b) k]
        refine filt_len fun m hm => ?_
        obtain ⟨h2, h3⟩ := hhi m (List.mem_range.1 hm)
        show (stpR D (n + 1) (2 ^ n + m) && blkR B (n + 1) (2 ^ n + m) && decide (popR (n + 1) (2 ^ n + m) = k + 1)) = _
        have h4 : ((List.range n).all fun b => !((2 ^ n + m).testBit b && D n b)) = (List.range n).all fun b => !(m.testBit b && D n b) := by
          rw [Bool.eq_iff_iff, List.all_eq_true, List.all_eq_true]
          refine ⟨fun hh b hb => ?_, fun hh b hb => ?_⟩
          · rw [← h3 b (List.mem_range.1 hb)]; exact hh b hb
          · rw [h3 b (List.mem_range.1 hb)]; exact hh b hb
        rw [stpR, blkR, popR, stpR_congr h3, blkR_congr h3, popR_congr h3, h2, h4, hB, ← blkR_more]
        rw [if_pos rfl, show decide (popR n m + 1 = k + 1) = decide (popR n m = k) by rw [decide_eq_decide]; omega]
        cases stpR D n m <;> cases blkR B n m <;> cases (List.range n).all (fun b => !(m.testBit b && D n b)) <;> cases decide (popR n m = k) <;> rfl
/-- Numbers of traces depend on the letters alone. -/
theorem cntB_congr {n : Nat} {D : Nat → Nat → Bool} : ∀ (m : Nat) {M M' : Nat → Bool}, (∀ b < n, M b = M' b) → cntB n D m M = cntB n D m M'
  | 0, _, _, _ => rfl
  | m + 1, M, M', h => by
    rw [cntB, cntB]
    refine smN_congr n fun c hc => ?_
    rw [h c hc]
    split
    · rfl
    · exact cntB_congr m fun b hb => by unfold aftB; rw [h b hb]
/-- Sums that are cut off at a limit. -/
theorem smN_min {f : Nat → Nat} {L : Nat} : ∀ n, min (smN (fun c => min (f c) L) n) L = min (smN f n) L
  | 0 => rfl
  | n + 1 => by
    have ih := smN_min (f := f) (L := L) n
    rw [smN, smN]
    omega
end Go.Proofs.YtihdeagknggeiaaDoor
