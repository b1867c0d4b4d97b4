import Derived.Test.YtihdeagknggeiaaDoorFo
set_option autoImplicit false
set_option linter.unusedSimpArgs false
set_option linter.unusedVariables false
namespace Go.Proofs.YtihdeagknggeiaaDoor
open Go.Den
/-- How often each letter occurs. -/
def cnts (L : Nat) (w : List Nat) : List Nat := (List.range L).map fun a => w.count a
theorem cnts_length (L : Nat) (w : List Nat) : (cnts L w).length = L := by simp [cnts]
theorem cnts_get {L a : Nat} (w : List Nat) (h : a < L) : (cnts L w).getD a 0 = w.count a := by
  rw [List.getD_eq_getElem?_getD]
  simp [cnts, h]
theorem cnts_set {L c : Nat} (u : List Nat) (hc : c < L) : (cnts L u).set c (u.count c + 1) = cnts L (u ++ [c]) := by
  refine List.ext_getElem? fun j => ?_
  by_cases e : c = j
  · subst e
    rw [List.getElem?_set_self (by rw [cnts_length]; exact hc)]
    simp [cnts, hc]
  · rw [List.getElem?_set_ne e]
    by_cases hj : j < L
    · have : [c].count j = 0 := by simp [e]
      simp [cnts, hj, this]
    · simp [cnts, hj]
theorem natI_splice {xs : List Nat} {c v : Nat} {n m : Int} (hn : n = c) (hc : c < xs.length) (hm : m = v) : splice ((natI xs).map i64) (n.toNat * 1) [.c (.int .i64 m)] = (natI (xs.set c v)).map i64 := by
  subst hm
  rw [splice_at hn (by rw [natI_length]; exact hc), natI_set]
theorem cnts_gi {L a : Nat} (w : List Nat) (h : a < L) : (natI (cnts L w))[a]'(by rw [natI_length, cnts_length]; exact h) = ((w.count a : Nat) : Int) := by rw [natI_getD (by rw [cnts_length]; exact h), cnts_get _ h]
def wts (c : Nat → Nat) (n : Nat) : List Nat := (List.range n).map (wt c)
theorem wts_length (c : Nat → Nat) (n : Nat) : (wts c n).length = n := by simp [wts]
theorem wts_succ (c : Nat → Nat) (n : Nat) : wts c (n + 1) = wts c n ++ [wt c n] := by simp [wts, List.range_succ]
theorem wts_get {c : Nat → Nat} {n a : Nat} (h : a < n) : (wts c n).getD a 0 = wt c a := by
  rw [List.getD_eq_getElem?_getD]
  simp [wts, h]
theorem wts_gi {c : Nat → Nat} {n a : Nat} (h : a < n) : (natI (wts c n))[a]'(by rw [natI_length, wts_length]; exact h) = ((wt c a : Nat) : Int) := by rw [natI_getD (by rw [wts_length]; exact h), wts_get h]
def nums (w : List Nat) (n : Nat) : List Nat := (List.range n).map (num w)
theorem nums_length (w : List Nat) (n : Nat) : (nums w n).length = n := by simp [nums]
theorem nums_succ (w : List Nat) (n : Nat) : nums w (n + 1) = nums w n ++ [num w n] := by simp [nums, List.range_succ]
theorem nums_get {w : List Nat} {n a : Nat} (h : a < n) : (nums w n).getD a 0 = num w a := by
  rw [List.getD_eq_getElem?_getD]
  simp [nums, h]
theorem nums_gi {w : List Nat} {n a : Nat} (h : a < n) : (natI (nums w n))[a]'(by rw [natI_length, nums_length]; exact h) = ((num w a : Nat) : Int) := by rw [natI_getD (by rw [nums_length]; exact h), nums_get h]
theorem ints_natI_snoc (u : List Nat) (a : Nat) : ints (natI (u ++ [a])) = .sl false 1 ((natI u).length + 1) ((natI u).map i64 ++ [i64 a]) := by rw [natI_snoc, ints_snoc]
theorem count_take_succ {w : List Nat} {k a : Nat} (h : k < w.length) : (w.take (k + 1)).count a = (w.take k).count a + if w.getD k 0 = a then 1 else 0 := by
  rw [take_succ_getD h, List.count_append, List.count_cons, List.count_nil, Nat.zero_add]
  congr 1
  by_cases e : w.getD k 0 = a
  · rw [if_pos (by simpa using e), if_pos e]
  · rw [if_neg (by simpa using e), if_neg e]
/-- The last condition of a place, as far as the places below j. -/
def rdy (ms : List Nat) (k : Nat → Nat) (w : List Nat) (i j : Nat) : Bool := (List.range j).all fun j => !(dep ms (w.getD j 0) (w.getD i 0) && decide (k (w.getD j 0) ≤ num w j))
theorem rdy_succ (ms : List Nat) (k : Nat → Nat) (w : List Nat) (i j : Nat) : rdy ms k w i (j + 1) = (rdy ms k w i j && !(dep ms (w.getD j 0) (w.getD i 0) && decide (k (w.getD j 0) ≤ num w j))) := by
  simp [rdy, List.range_succ]
theorem enb_rdy (ms : List Nat) (k : Nat → Nat) (w : List Nat) (i : Nat) : enb ms k w i = (k (w.getD i 0) == num w i && rdy ms k w i i) := rfl
end Go.Proofs.YtihdeagknggeiaaDoor
