import Derived.Test.YtihdeagknggeiaaDoorFl
set_option autoImplicit false
set_option linter.unusedSimpArgs false
set_option linter.unusedVariables false
namespace Go.Proofs.YtihdeagknggeiaaDoor
open Go.Den
theorem wd_lt {ms w : List Nat} (hw : Wd ms w) {i : Nat} (hi : i < w.length) : w.getD i 0 < ms.length := by
  rw [List.getD_eq_getElem?_getD, List.getElem?_eq_getElem hi, Option.getD_some]
  exact hw _ (List.getElem_mem hi)
theorem take_succ_getD {w : List Nat} {i : Nat} (hi : i < w.length) : w.take (i + 1) = w.take i ++ [w.getD i 0] := by
  rw [List.take_succ_eq_append_getElem hi, List.getD_eq_getElem?_getD, List.getElem?_eq_getElem hi, Option.getD_some]
theorem take_add_one_len (w : List Nat) : w.take w.length = w := List.take_length
theorem natI_take (w : List Nat) (i : Nat) : (natI w).take i = natI (w.take i) := by simp [natI, List.map_take]
theorem natI_drop (w : List Nat) (i : Nat) : (natI w).drop i = natI (w.drop i) := by simp [natI, List.map_drop]
theorem natI_append (u v : List Nat) : natI (u ++ v) = natI u ++ natI v := by simp [natI]
theorem natI_inj : ∀ {u v : List Nat}, natI u = natI v → u = v
  | [], [], _ => rfl
  | [], _ :: _, h => by simp [natI] at h
  | _ :: _, [], h => by simp [natI] at h
  | a :: u, b :: v, h => by
    simp only [natI, List.map_cons, List.cons.injEq] at h
    rw [Int.natCast_inj.1 h.1, natI_inj (u := u) (v := v) h.2]
theorem pow_lt_63 {n : Nat} (h : n ≤ 62) : 2 ^ n < 2 ^ 63 := Nat.pow_lt_pow_right (by decide) (by omega)
theorem maskN_lt63 (p : Nat → Bool) {n : Nat} (h : n ≤ 62) : maskN p n < 2 ^ 63 := Nat.lt_of_lt_of_le (maskN_lt p n) (Nat.pow_le_pow_right (by decide) (by omega))
/-- The set of the letters that can be taken away from the front. -/
def fstM (ms w : List Nat) : Nat := maskN (fun a => canF ms a w) ms.length
/-- The set of the letters that some letter depends on. -/
def blkM (ms w : List Nat) : Nat := maskN (fun a => w.any fun b => dep ms b a) ms.length
set_option maxHeartbeats 16000000 in
set_option maxRecDepth 100000 in
theorem fstM_nil (ms : List Nat) : fstM ms [] = 0 := by
  refine Nat.eq_of_testBit_eq fun i => ?_
  simp [fstM, maskN_bit, canF]
set_option maxHeartbeats 16000000 in
set_option maxRecDepth 100000 in
theorem blkM_nil (ms : List Nat) : blkM ms [] = 0 := by
  refine Nat.eq_of_testBit_eq fun i => ?_
  simp [blkM, maskN_bit]
theorem blkM_bit {ms : List Nat} (w : List Nat) {c : Nat} (hc : c < ms.length) : (blkM ms w).testBit c = w.any fun b => dep ms b c := by
  unfold blkM
  rw [maskN_bit, decide_eq_true hc, Bool.true_and]
theorem fstM_snoc {ms : List Nat} (w : List Nat) {c : Nat} (hc : c < ms.length) : fstM ms (w ++ [c]) = if (blkM ms w).testBit c then fstM ms w else fstM ms w ||| 2 ^ c := by
  rw [blkM_bit w hc]
  refine Nat.eq_of_testBit_eq fun i => ?_
  have key : (fstM ms (w ++ [c])).testBit i = (decide (i < ms.length) && (canF ms i w || (c == i && !w.any fun b => dep ms b i))) := by
    unfold fstM
    rw [maskN_bit, canF_snoc]
  rw [key]
  by_cases h : (w.any fun b => dep ms b c) = true
  · rw [if_pos h]
    unfold fstM
    rw [maskN_bit]
    by_cases e : c = i
    · subst e; rw [h]; simp
    · have : (c == i) = false := by simpa using e
      rw [this]; simp
  · rw [if_neg h, Nat.testBit_or, Nat.testBit_two_pow]
    unfold fstM
    rw [maskN_bit]
    by_cases e : c = i
    · subst e
      rw [Bool.not_eq_true] at h
      rw [h]; simp [hc]
    · have : (c == i) = false := by simpa using e
      rw [this]; simp [e]
theorem blkM_snoc {ms : List Nat} (hm : ∀ m ∈ ms, m < 2 ^ ms.length) (w : List Nat) {c : Nat} (hc : c < ms.length) : blkM ms (w ++ [c]) = blkM ms w ||| ms.getD c 0 := by
  refine Nat.eq_of_testBit_eq fun i => ?_
  rw [Nat.testBit_or]
  unfold blkM
  rw [maskN_bit, maskN_bit]
  simp only [List.any_append, List.any_cons, List.any_nil, Bool.or_false]
  by_cases hi : i < ms.length
  · simp [hi, dep]
  · have : (ms.getD c 0).testBit i = false := by
      rw [List.getD_eq_getElem?_getD, List.getElem?_eq_getElem hc, Option.getD_some]
      exact Nat.testBit_lt_two_pow (Nat.lt_of_lt_of_le (hm _ (List.getElem_mem hc)) (Nat.pow_le_pow_right (by decide) (by omega)))
    rw [this]
    simp [hi]
theorem getD_lt' {ms : List Nat} (hm : ∀ m ∈ ms, m < 2 ^ ms.length) (hl : ms.length ≤ 62) {c : Nat} (hc : c < ms.length) : ms.getD c 0 < 2 ^ 63 := by
  rw [List.getD_eq_getElem?_getD, List.getElem?_eq_getElem hc, Option.getD_some]
  exact Nat.lt_of_lt_of_le (hm _ (List.getElem_mem hc)) (Nat.pow_le_pow_right (by decide) (by omega))
/-- The letters that can be taken away from the front. -/
def fsts (ms w : List Nat) : List Nat := (List.range ms.length).filter fun a => canF ms a w
theorem filter_range (p : Nat → Bool) (n : Nat) : ∀ d : Nat, ((List.range (n + d)).filter fun i => decide (i < n) && p i) = (List.range n).filter p
  | 0 => List.filter_congr fun i hi => by simp at hi; simp [hi]
  | d + 1 => by
    have h : decide (n + d < n) = false := decide_eq_false (by omega)
    rw [← Nat.add_assoc, List.range_succ, List.filter_append, filter_range p n d, List.filter_cons, h]
    simp
theorem mems_mask (p : Nat → Bool) {n : Nat} (hn : n ≤ 64) : mems (maskN p n) = (List.range n).filter p := by
  unfold mems
  rw [show (maskN p n).testBit = fun i => decide (i < n) && p i from funext fun i => maskN_bit p n i]
  have := filter_range p n (64 - n)
  rwa [show n + (64 - n) = 64 by omega] at this
theorem mems_fst {ms : List Nat} (w : List Nat) (hl : ms.length ≤ 64) : mems (fstM ms w) = fsts ms w := mems_mask _ hl
theorem fsts_head (ms w : List Nat) : (fsts ms w).head? = leastF ms w := List.head?_filter
theorem ctz_fst {ms w : List Nat} {a : Nat} (hl : ms.length ≤ 62) (h : leastF ms w = some a) : Lib.ctz 64 (fstM ms w) = a := by
  obtain ⟨h1, h2⟩ := leastF_some h
  have hb : (fstM ms w).testBit a = true := by
    unfold fstM
    rw [maskN_bit, decide_eq_true h1, h2]
    rfl
  have h0 : fstM ms w ≠ 0 := fun e => by rw [e, Nat.zero_testBit] at hb; cases hb
  have h63 := maskN_lt63 (fun a => canF ms a w) hl
  have := mems_step h0 (Nat.lt_trans (show fstM ms w < 2 ^ 63 from h63) (by decide))
  rw [mems_fst w (by omega)] at this
  have h3 := fsts_head ms w
  rw [this, h] at h3
  exact Option.some.inj h3
theorem word_nat {n : Int} {xs : List Int} (h : wordN n xs = true) : ∃ w : List Nat, xs.map Int.toNat = w ∧ xs = natI w ∧ w.length ≤ 24 ∧ ∀ c ∈ w, (c : Int) < n := by
  unfold wordN at h
  simp only [Bool.and_eq_true, decide_eq_true_eq, List.all_eq_true] at h
  refine ⟨_, rfl, ?_, by rw [List.length_map]; exact h.1, fun c hc => ?_⟩
  · unfold natI
    rw [List.map_map]
    conv => lhs; rw [← List.map_id xs]
    refine List.map_congr_left fun x hx => ?_
    have := (h.2 x hx).1
    simp only [id, Function.comp]
    omega
  · obtain ⟨x, hx, rfl⟩ := List.mem_map.1 hc
    have := h.2 x hx
    omega
theorem word_wd {ms w : List Nat} (h : ∀ c ∈ w, (c : Int) < (ms.length : Int)) : Wd ms w := fun c hc => by have := h c hc; omega
theorem alpha_of {ms : List Nat} (hl : ms.length ≤ 8) (hm : ∀ m ∈ ms, m < 2 ^ ms.length) (hs : ∀ a < ms.length, (ms.getD a 0).testBit a = true ∧ ∀ b < ms.length, (ms.getD a 0).testBit b = (ms.getD b 0).testBit a) : Alpha ms := by
  have hz : ∀ a b, ¬ (a < ms.length ∧ b < ms.length) → dep ms a b = false := fun a b h => by
    unfold dep
    by_cases ha : a < ms.length
    · have hb : ¬ b < ms.length := fun hb => h ⟨ha, hb⟩
      rw [List.getD_eq_getElem?_getD, List.getElem?_eq_getElem ha, Option.getD_some]
      exact Nat.testBit_lt_two_pow (Nat.lt_of_lt_of_le (hm _ (List.getElem_mem ha)) (Nat.pow_le_pow_right (by decide) (by omega)))
    · rw [List.getD_eq_getElem?_getD, List.getElem?_eq_none (by omega), Option.getD_none, Nat.zero_testBit]
  refine ⟨hm, fun a b => ?_, fun a ha => (hs a ha).1⟩
  by_cases h : a < ms.length ∧ b < ms.length
  · exact (hs a h.1).2 b h.2
  · rw [hz a b h, hz b a fun h' => h ⟨h'.2, h'.1⟩]
/-- An alphabet that is valid. -/
theorem alpha_ok {n : Int} {ds : List Int} (h : alphaOk n ds = true) : ∃ ms : List Nat, ds.map Int.toNat = ms ∧ n = ms.length ∧ ds = natI ms ∧ ms.length ≤ 8 ∧ Alpha ms := by
  obtain ⟨ms, h1, h2, h3, h4, h5, h6⟩ := alpha_nat h
  exact ⟨ms, h1, h2, h3, h4, alpha_of h4 h5 h6⟩
theorem wcode_t (b : Bool) : wcode true b = if b then 0 else 2 := rfl
theorem wcode_f (b : Bool) : wcode false b = 1 := rfl
end Go.Proofs.YtihdeagknggeiaaDoor
