import Derived.Test.YtihdeagknggeiaaDoorFi
set_option autoImplicit false
set_option linter.unusedSimpArgs false
set_option linter.unusedVariables false
namespace Go.Proofs.YtihdeagknggeiaaDoor
open Go.Den
/-- Slices of slices of numbers. -/
def rowsI (rs : List (List Int)) : Cell := .sl false 1 rs.length (rs.map ints)
/-- The numbers in all rows. -/
def tot : List (List Int) → Nat
  | [] => 0
  | r :: rs => r.length + tot rs
theorem tot_take_succ {rs : List (List Int)} {i : Nat} (h : i < rs.length) : tot (rs.take (i + 1)) = tot (rs.take i) + rs[i].length := by
  induction rs generalizing i with
  | nil => simp at h
  | cons r rs ih =>
    cases i with
    | zero => simp [tot]
    | succ i =>
      have := ih (i := i) (by simpa using h)
      simp only [List.take_succ_cons, tot, List.getElem_cons_succ]
      omega
theorem tot_take_le (rs : List (List Int)) (i : Nat) : tot (rs.take i) ≤ tot rs := by
  induction rs generalizing i with
  | nil => simp [tot]
  | cons r rs ih =>
    cases i with
    | zero => simp [tot]
    | succ i =>
      have := ih i
      simp only [List.take_succ_cons, tot]
      omega
theorem tot_mem {rs : List (List Int)} {r : List Int} (h : r ∈ rs) : r.length ≤ tot rs := by
  induction rs with
  | nil => cases h
  | cons x rs ih =>
    rcases List.mem_cons.1 h with rfl | h
    · simp [tot]
    · have := ih h
      simp only [tot]
      omega
/-- Rows marked from m on. -/
def markR (m : Int) : List (List Int) → List (List Int)
  | [] => []
  | xs :: rs => marks m xs.length :: markR (m + xs.length) rs
theorem markR_length : ∀ (m : Int) (rs : List (List Int)), (markR m rs).length = rs.length
  | _, [] => rfl
  | m, xs :: rs => by simp [markR, markR_length (m + xs.length) rs]
theorem markR_get : ∀ {m : Int} {rs : List (List Int)} {i : Nat} (h : i < rs.length), (markR m rs)[i]? = some (marks (m + (tot (rs.take i) : Nat)) rs[i].length)
  | m, xs :: rs, 0, _ => by simp [markR, tot]
  | m, xs :: rs, i + 1, h => by
    have := markR_get (m := m + xs.length) (rs := rs) (i := i) (by simpa using h)
    simp only [markR, List.getElem?_cons_succ, List.getElem_cons_succ, List.take_succ_cons, tot]
    rw [this, show m + (xs.length : Int) + (tot (rs.take i) : Nat) = m + (xs.length + tot (rs.take i) : Nat) by simp; omega]
theorem tot_markR : ∀ (m : Int) (rs : List (List Int)), tot (markR m rs) = tot rs
  | _, [] => rfl
  | m, xs :: rs => by simp [markR, tot, tot_markR (m + xs.length) rs, marks_length]
/-- The first i rows are marked. -/
def mkR (m : Int) (rs : List (List Int)) (i : Nat) : List (List Int) := (markR m rs).take i ++ rs.drop i
theorem mkR_length {m : Int} {rs : List (List Int)} {i : Nat} (h : i ≤ rs.length) : (mkR m rs i).length = rs.length := by
  simp [mkR, markR_length]
  omega
theorem mkR_get {m : Int} {rs : List (List Int)} {i : Nat} (h : i < rs.length) (h2 : i < (mkR m rs i).length) : (mkR m rs i)[i] = rs[i] := by
  have hl : ((markR m rs).take i).length = i := by rw [List.length_take, markR_length]; omega
  have : (mkR m rs i)[i]? = rs[i]? := by
    unfold mkR
    rw [List.getElem?_append_right (by omega), hl, Nat.sub_self, List.getElem?_drop, Nat.add_zero]
  rw [List.getElem?_eq_getElem h2, List.getElem?_eq_getElem h] at this
  exact Option.some.inj this
theorem mkR_set {m : Int} {rs : List (List Int)} {i : Nat} {x : List Int} (h : i < rs.length) (hx : (markR m rs)[i]? = some x) : (mkR m rs i).set i x = mkR m rs (i + 1) := by
  have hl : ((markR m rs).take i).length = i := by rw [List.length_take, markR_length]; omega
  have hm : i < (markR m rs).length := by rw [markR_length]; exact h
  have hx' : (markR m rs)[i] = x := by
    rw [List.getElem?_eq_getElem hm] at hx
    exact Option.some.inj hx
  unfold mkR
  rw [List.set_append_right _ _ (by omega), hl, Nat.sub_self, List.drop_eq_getElem_cons h, List.set_cons_zero, List.take_succ_eq_append_getElem hm, hx', List.append_assoc]
  rfl
theorem mkR_all (m : Int) (rs : List (List Int)) : mkR m rs rs.length = markR m rs := by
  unfold mkR
  rw [List.drop_length, List.append_nil]
  conv => lhs; rw [← markR_length m rs]
  exact List.take_length
theorem mkR_zero (m : Int) (rs : List (List Int)) : mkR m rs 0 = rs := rfl
end Go.Proofs.YtihdeagknggeiaaDoor
