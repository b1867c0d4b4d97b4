import Derived.Test.YtljhmkkmcbfffaaDoorFw
set_option autoImplicit false
set_option linter.unusedSimpArgs false
set_option linter.unusedVariables false
namespace Go.Proofs.YtljhmkkmcbfffaaDoor
open Go.Den
/-- The product of the images of the letters of a word. -/
def imgN (im : List (List Nat)) (w : List Nat) : List Nat := w.flatMap fun a => im.getD a []
theorem imgN_succ {im : List (List Nat)} {w : List Nat} {i : Nat} (h : i < w.length) : imgN im (w.take (i + 1)) = imgN im (w.take i) ++ im.getD (w.getD i 0) [] := by
  rw [take_succ_getD h]
  simp [imgN]
theorem imgN_len {im : List (List Nat)} (hi : ∀ v ∈ im, v.length ≤ 24) (w : List Nat) : (imgN im w).length ≤ w.length * 24 := by
  induction w with
  | nil => simp [imgN]
  | cons a w ih =>
    have h1 : (im.getD a []).length ≤ 24 := by
      by_cases ha : a < im.length
      · rw [List.getD_eq_getElem?_getD, List.getElem?_eq_getElem ha, Option.getD_some]
        exact hi _ (List.getElem_mem ha)
      · rw [List.getD_eq_getElem?_getD, List.getElem?_eq_none (by omega)]
        simp
    have h2 : imgN im (a :: w) = im.getD a [] ++ imgN im w := rfl
    rw [h2, List.length_append, List.length_cons, Nat.succ_mul]
    omega
theorem imgN_wd {ds : List Nat} {im : List (List Nat)} (hi : Wds ds im) (w : List Nat) : Wd ds (imgN im w) := by
  intro c hc
  obtain ⟨a, -, ha⟩ := List.mem_flatMap.1 hc
  by_cases h : a < im.length
  · exact (hi.get h).2 c ha
  · rw [List.getD_eq_getElem?_getD, List.getElem?_eq_none (by omega)] at ha
    simp at ha
theorem ints_natI_append (u v : List Nat) : ints (natI (u ++ v)) = .sl false 1 ((natI u).length + (natI v).length) ((natI u).map i64 ++ (natI v).map i64) := by rw [natI_append, ints_append]
end Go.Proofs.YtljhmkkmcbfffaaDoor
