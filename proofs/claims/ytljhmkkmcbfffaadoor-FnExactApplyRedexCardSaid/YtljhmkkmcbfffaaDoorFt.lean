import Derived.Test.YtljhmkkmcbfffaaDoorFs
set_option autoImplicit false
set_option linter.unusedSimpArgs false
set_option linter.unusedVariables false
namespace Go.Proofs.YtljhmkkmcbfffaaDoor
open Go.Den
/-- Are there words over m letters for n letters? -/
def mapOk (n m : Int) (rs : List (List Int)) : Bool := decide ((rs.length : Int) = n) && rs.all fun w => wordN m w
/-- Do the images of independent letters commute? -/
def respN (ms ds : List Nat) (im : List (List Nat)) : Bool := (List.range ms.length).all fun a => (List.range a).all fun b => dep ms a b || comN ds (im.getD a []) (im.getD b [])
theorem respN_of {ms ds : List Nat} {im : List (List Nat)} (h : ∀ a < ms.length, ∀ b < a, (dep ms a b || comN ds (im.getD a []) (im.getD b [])) = true) : respN ms ds im = true := by
  unfold respN
  simp only [List.all_eq_true, List.mem_range]
  exact h
theorem respN_all {ms ds : List Nat} {im : List (List Nat)} (hA : Alpha ms) (h : respN ms ds im = true) {a b : Nat} (ha : a < ms.length) (hb : b < ms.length) : (dep ms a b || comN ds (im.getD a []) (im.getD b [])) = true := by
  unfold respN at h
  simp only [List.all_eq_true, List.mem_range] at h
  rcases Nat.lt_trichotomy a b with hl | rfl | hl
  · rw [hA.sym, comN_comm]
    exact h b hb a hl
  · rw [hA.self a ha, Bool.true_or]
  · exact h a ha b hl
theorem respN_bad {ms ds : List Nat} {im : List (List Nat)} (hA : Alpha ms) {a b : Nat} (ha : a < ms.length) (hb : b < ms.length) (h1 : dep ms a b = false) (h2 : comN ds (im.getD a []) (im.getD b []) = false) : respN ms ds im = false := by
  cases h : respN ms ds im with
  | false => rfl
  | true => have := respN_all hA h ha hb; rw [h1, h2] at this; cases this
/-- Rows of words. -/
theorem rows_nat {m : Int} {rs : List (List Int)} (h : (rs.all fun w => wordN m w) = true) : ∃ im : List (List Nat), rs.map (·.map Int.toNat) = im ∧ rs = im.map natI ∧ ∀ w ∈ im, w.length ≤ 24 ∧ ∀ c ∈ w, (c : Int) < m := by
  rw [List.all_eq_true] at h
  refine ⟨_, rfl, ?_, fun w hw => ?_⟩
  · rw [List.map_map]
    conv => lhs; rw [← List.map_id rs]
    refine List.map_congr_left fun x hx => ?_
    obtain ⟨w, h1, h2, -⟩ := word_nat (h x hx)
    simp only [id, Function.comp]
    rw [h1, ← h2]
  · obtain ⟨x, hx, rfl⟩ := List.mem_map.1 hw
    obtain ⟨w, h1, -, h3, h4⟩ := word_nat (h x hx)
    rw [h1]
    exact ⟨h3, h4⟩
theorem ints_append (x y : List Int) : ints (x ++ y) = .sl false 1 (x.length + y.length) (x.map i64 ++ y.map i64) := by simp [ints]
/-- The words of a letter map. -/
def Wds (ds : List Nat) (im : List (List Nat)) : Prop := ∀ w ∈ im, w.length ≤ 24 ∧ Wd ds w
theorem Wds.get {ds : List Nat} {im : List (List Nat)} (h : Wds ds im) {a : Nat} (ha : a < im.length) : (im.getD a []).length ≤ 24 ∧ Wd ds (im.getD a []) := by
  rw [List.getD_eq_getElem?_getD, List.getElem?_eq_getElem ha, Option.getD_some]
  exact h _ (List.getElem_mem ha)
theorem rows_get {im : List (List Nat)} {a : Nat} (ha : a < im.length) (h2 : a < (im.map natI).length) : (im.map natI)[a]'h2 = natI (im.getD a []) := by
  rw [List.getElem_map, List.getD_eq_getElem?_getD, List.getElem?_eq_getElem ha, Option.getD_some]
/-- What a letter map that is valid is made of. -/
theorem map_ok {ms ds : List Nat} {rs : List (List Int)} (h : mapOk ms.length ds.length rs = true) : ∃ im : List (List Nat), rs.map (·.map Int.toNat) = im ∧ rs = im.map natI ∧ im.length = ms.length ∧ Wds ds im := by
  unfold mapOk at h
  rw [Bool.and_eq_true, decide_eq_true_eq] at h
  obtain ⟨im, h1, h2, h3⟩ := rows_nat h.2
  refine ⟨im, h1, h2, ?_, fun w hw => ⟨(h3 w hw).1, word_wd (h3 w hw).2⟩⟩
  have := h.1
  rw [h2, List.length_map] at this
  omega
/-- The code of alphabets, a letter map, and more that has to be in range. -/
def morphC (n : Int) (ds : List Int) (m : Int) (es : List Int) (rs : List (List Int)) (ok : Bool) : Int :=
  if alphaOk n ds && alphaOk m es then (if mapOk n m rs && ok then (if respN (ds.map Int.toNat) (es.map Int.toNat) (rs.map (·.map Int.toNat)) then 0 else 5) else 2) else 1
theorem morphC_1 {n : Int} {ds : List Int} {m : Int} {es : List Int} {rs : List (List Int)} {ok : Bool} (h : (alphaOk n ds && alphaOk m es) = false) : morphC n ds m es rs ok = 1 := by
  unfold morphC
  rw [if_neg (by rw [h]; simp)]
theorem morphC_2 {n : Int} {ds : List Int} {m : Int} {es : List Int} {rs : List (List Int)} {ok : Bool} (h1 : alphaOk n ds = true) (h2 : alphaOk m es = true) (h : (mapOk n m rs && ok) = false) : morphC n ds m es rs ok = 2 := by
  unfold morphC
  rw [if_pos (by rw [h1, h2]; rfl), if_neg (by rw [h]; simp)]
theorem morphC_3 {n : Int} {ds : List Int} {m : Int} {es : List Int} {rs : List (List Int)} {ok : Bool} {ms ks : List Nat} {im : List (List Nat)} (h1 : alphaOk n ds = true) (h2 : alphaOk m es = true) (h : (mapOk n m rs && ok) = true)
    (e1 : ds.map Int.toNat = ms) (e2 : es.map Int.toNat = ks) (e3 : rs.map (·.map Int.toNat) = im) : morphC n ds m es rs ok = if respN ms ks im then 0 else 5 := by
  unfold morphC
  rw [if_pos (by rw [h1, h2]; rfl), if_pos h, e1, e2, e3]
end Go.Proofs.YtljhmkkmcbfffaaDoor
