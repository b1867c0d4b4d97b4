import Derived.Sort.AssemblyPlain
import Derived.Sort.Walk13a
import Derived.Test.YtpopepcmfanegaaDoorFt
set_option autoImplicit false
set_option linter.unusedSimpArgs false
set_option linter.unusedVariables false
namespace Go.Proofs.YtpopepcmfanegaaDoor
open Go.Den
/-! ### Sorting rows -/
/-- The comparison of two words, as slices.Compare tells it. -/
def cmpL : List Int → List Int → Int
  | [], [] => 0
  | [], _ :: _ => -1
  | _ :: _, [] => 1
  | a :: u, b :: v => if a < b then -1 else if b < a then 1 else cmpL u v
theorem cmpL_self : ∀ u, cmpL u u = 0
  | [] => rfl
  | a :: u => by
    rw [cmpL, if_neg (by omega), if_neg (by omega)]
    exact cmpL_self u
theorem cmpL_cases : ∀ u v, cmpL u v = -1 ∨ cmpL u v = 0 ∨ cmpL u v = 1
  | [], [] => by simp [cmpL]
  | [], _ :: _ => by simp [cmpL]
  | _ :: _, [] => by simp [cmpL]
  | a :: u, b :: v => by
    rw [cmpL]
    split
    · simp
    · split
      · simp
      · exact cmpL_cases u v
theorem cmpL_eq : ∀ {u v : List Int}, cmpL u v = 0 → u = v
  | [], [], _ => rfl
  | [], _ :: _, h => by simp [cmpL] at h
  | _ :: _, [], h => by simp [cmpL] at h
  | a :: u, b :: v, h => by
    rw [cmpL] at h
    split at h
    · simp at h
    · split at h
      · simp at h
      · rw [cmpL_eq h, show a = b by omega]
theorem cmpL_neg : ∀ u v, cmpL v u = - cmpL u v
  | [], [] => rfl
  | [], _ :: _ => rfl
  | _ :: _, [] => rfl
  | a :: u, b :: v => by
    rw [cmpL, cmpL]
    by_cases h1 : a < b
    · rw [if_neg (by omega), if_pos h1, if_pos h1]; omega
    · by_cases h2 : b < a
      · rw [if_pos h2, if_neg h1, if_pos h2]
      · rw [if_neg h2, if_neg h1, if_neg h1, if_neg h2]
        exact cmpL_neg u v
theorem cmpL_trans : ∀ {u v w : List Int}, cmpL u v ≤ 0 → cmpL v w ≤ 0 → cmpL u w ≤ 0
  | [], _, [], _, _ => by simp [cmpL]
  | [], _, _ :: _, _, _ => by simp [cmpL]
  | _ :: _, [], _, h, _ => by simp [cmpL] at h
  | _ :: _, _ :: _, [], _, h => by simp [cmpL] at h
  | a :: u, b :: v, c :: w, h1, h2 => by
    rw [cmpL] at h1 h2 ⊢
    split at h1
    · split at h2
      · rw [if_pos (by omega)]; omega
      · split at h2
        · omega
        · rw [if_pos (by omega)]; omega
    · split at h1
      · omega
      · split at h2
        · rw [if_pos (by omega)]; omega
        · split at h2
          · omega
          · rw [if_neg (by omega), if_neg (by omega)]
            exact cmpL_trans h1 h2
/-- Does a word come before another one? -/
def ltR (u v : List Int) : Bool := decide (cmpL u v < 0)
theorem swoR : Sort.SWO ltR where
  irrefl u := by simp [ltR, cmpL_self]
  ntrans u v w h1 h2 := by
    have h1 := of_decide_eq_false h1
    have h2 := of_decide_eq_false h2
    refine decide_eq_false ?_
    have := cmpL_trans (u := w) (v := v) (w := u) (by rw [cmpL_neg]; omega) (by rw [cmpL_neg]; omega)
    rw [cmpL_neg] at this
    omega
  trans u v w h1 h2 := by
    have h1 := of_decide_eq_true h1
    have h2 := of_decide_eq_true h2
    refine decide_eq_true ?_
    have h3 := cmpL_trans (u := u) (v := v) (w := w) (by omega) (by omega)
    rcases Int.lt_or_eq_of_le h3 with h | h
    · exact h
    · have e := cmpL_eq h
      subst e
      rw [cmpL_neg] at h2
      omega
/-- Rows that are shared, in a slice of one's own. -/
def rowsT (n : Nat) (d : Array (List Int)) : Cell := .sl true 1 n (d.toList.map ints)
structure Good (n : Nat) (d : Array (List Int)) : Prop where
  size : d.size = n
  len : ∀ i : Nat, i < n → d[i]!.length < 2 ^ 62
theorem Good.get {n : Nat} {d : Array (List Int)} (h : Good n d) {i : Nat} (hi : i < n) : d.toList[i]'(by rw [Array.length_toList, h.size]; exact hi) = d[i]! := by
  rw [Array.getElem_toList]
  exact (getElem!_pos d i (by rw [h.size]; exact hi)).symm
theorem swp_get {d : Array (List Int)} {i j : Nat} (hi : i < d.size) (hj : j < d.size) (p : Nat) (hp : p < d.size) : (Sort.swp d i j)[p]! = if p = j then d[i]! else if p = i then d[j]! else d[p]! := by
  unfold Sort.swp
  rw [getElem!_pos _ p (by simpa using hp), Array.getElem_setIfInBounds (by simpa using hp), Array.getElem_setIfInBounds (by simpa using hp)]
  by_cases h1 : j = p
  · rw [if_pos h1, if_pos (show p = j from h1.symm)]
  · rw [if_neg h1, if_neg (show ¬ p = j from fun e => h1 e.symm)]
    by_cases h2 : i = p
    · rw [if_pos h2, if_pos (show p = i from h2.symm)]
    · rw [if_neg h2, if_neg (show ¬ p = i from fun e => h2 e.symm), getElem!_pos d p hp]
theorem swp_size (d : Array (List Int)) (i j : Nat) : (Sort.swp d i j).size = d.size := by simp [Sort.swp]
theorem Good.swp {n : Nat} {d : Array (List Int)} (h : Good n d) {i j : Nat} (hi : i < n) (hj : j < n) : Good n (Sort.swp d i j) where
  size := by rw [swp_size, h.size]
  len p hp := by
    rw [swp_get (by rw [h.size]; exact hi) (by rw [h.size]; exact hj) p (by rw [h.size]; exact hp)]
    split
    · exact h.len i hi
    · split
      · exact h.len j hj
      · exact h.len p hp
theorem swp_list (d : Array (List Int)) (i j : Nat) : (d.toList.set i d[j]!).set j d[i]! = (Sort.swp d i j).toList := by simp [Sort.swp]
theorem wrap_sub {a b : Nat} (h : b ≤ a) (h2 : a < 2 ^ 62) : IntKind.i64.wrap ((a : Int) - (b : Int)) = ((a - b : Nat) : Int) := by
  rw [wrap_i64 (by omega) (by omega)]
  omega
theorem wrap_pred {a : Nat} (h : 1 ≤ a) (h2 : a < 2 ^ 62) : IntKind.i64.wrap ((a : Int) - 1) = ((a - 1 : Nat) : Int) := by
  rw [wrap_i64 (by omega) (by omega)]
  omega
theorem wrap_plus {a b : Nat} (h : a < 2 ^ 61) (h2 : b < 2 ^ 61) : IntKind.i64.wrap ((a : Int) + (b : Int)) = ((a + b : Nat) : Int) := by
  rw [wrap_i64 (by omega) (by omega)]
  omega
/-- The comparison of two numbers, as cmp.Compare tells it. -/
def cmpI (a b : Int) : Int := if a < b then -1 else if b < a then 1 else 0
theorem wrap_u8 {m : Nat} (h : m < 256) : IntKind.u8.wrap (m : Int) = m := by
  unfold IntKind.wrap
  simp [IntKind.signed, IntKind.bits]
  omega
end Go.Proofs.YtpopepcmfanegaaDoor
