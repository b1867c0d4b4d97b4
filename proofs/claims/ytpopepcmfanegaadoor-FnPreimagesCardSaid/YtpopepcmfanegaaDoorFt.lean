import Derived.Test.YtpopepcmfanegaaDoorFs
set_option autoImplicit false
set_option linter.unusedSimpArgs false
set_option linter.unusedVariables false
namespace Go.Proofs.YtpopepcmfanegaaDoor
open Go.Den
/-- What ComposeMorphisms answers. -/
def compR (n : Int) (ds : List Int) (m : Int) (es : List Int) (l : Int) (us : List Int) (fs gs : List (List Int)) : List (List Nat) × Int :=
  if alphaOk n ds && alphaOk m es && alphaOk l us then
    (if mapOk n m fs && mapOk m l gs then
      (if respN (ds.map Int.toNat) (es.map Int.toNat) (fs.map (·.map Int.toNat)) && respN (es.map Int.toNat) (us.map Int.toNat) (gs.map (·.map Int.toNat)) then
        (if (fs.map (·.map Int.toNat)).any fun w => decide (24 < (imgN (gs.map (·.map Int.toNat)) w).length) then ([], 3)
          else ((fs.map (·.map Int.toNat)).map fun w => nform (us.map Int.toNat) (imgN (gs.map (·.map Int.toNat)) w), 0))
        else ([], 5))
      else ([], 2))
    else ([], 1)
section
variable {n : Int} {ds : List Int} {m : Int} {es : List Int} {l : Int} {us : List Int} {fs gs : List (List Int)}
theorem compR_1 (h : (alphaOk n ds && alphaOk m es && alphaOk l us) = false) : compR n ds m es l us fs gs = ([], 1) := by
  unfold compR
  rw [if_neg (by rw [h]; simp)]
theorem compR_2 (h1 : alphaOk n ds = true) (h2 : alphaOk m es = true) (h3 : alphaOk l us = true) (h : (mapOk n m fs && mapOk m l gs) = false) : compR n ds m es l us fs gs = ([], 2) := by
  unfold compR
  rw [if_pos (by rw [h1, h2, h3]; rfl), if_neg (by rw [h]; simp)]
theorem compR_3 (h1 : alphaOk n ds = true) (h2 : alphaOk m es = true) (h3 : alphaOk l us = true) (h : (mapOk n m fs && mapOk m l gs) = true) {ms ks ls : List Nat} {ff gg : List (List Nat)}
    (e1 : ds.map Int.toNat = ms) (e2 : es.map Int.toNat = ks) (e3 : us.map Int.toNat = ls) (e4 : fs.map (·.map Int.toNat) = ff) (e5 : gs.map (·.map Int.toNat) = gg) :
    compR n ds m es l us fs gs = if respN ms ks ff && respN ks ls gg then (if ff.any fun w => decide (24 < (imgN gg w).length) then ([], 3) else (ff.map fun w => nform ls (imgN gg w), 0)) else ([], 5) := by
  unfold compR
  rw [if_pos (by rw [h1, h2, h3]; rfl), if_pos h, e1, e2, e3, e4, e5]
end
theorem compR_nz {n : Int} {ds : List Int} {m : Int} {es : List Int} {l : Int} {us : List Int} {fs gs : List (List Int)} (h : (compR n ds m es l us fs gs).2 ≠ 0) : (compR n ds m es l us fs gs).1 = [] := by
  unfold compR at h ⊢
  split
  · rename_i h1
    rw [if_pos h1] at h
    split
    · rename_i h2
      rw [if_pos h2] at h
      split
      · rename_i h3
        rw [if_pos h3] at h
        split
        · rfl
        · rename_i h4; rw [if_neg h4] at h; exact absurd rfl h
      · rfl
    · rfl
  · rfl
theorem compR_le (n : Int) (ds : List Int) (m : Int) (es : List Int) (l : Int) (us : List Int) (fs gs : List (List Int)) : (compR n ds m es l us fs gs).2 ≠ 0 → OLe nilS (rowsC (compR n ds m es l us fs gs).1) := fun h => rows_nil (compR_nz h)
theorem compR_small (n : Int) (ds : List Int) (m : Int) (es : List Int) (l : Int) (us : List Int) (fs gs : List (List Int)) : ((compR n ds m es l us fs gs).1.map natI).length ≤ 8 ∧ tot ((compR n ds m es l us fs gs).1.map natI) ≤ 8 * 24 := by
  cases h1 : (alphaOk n ds && alphaOk m es && alphaOk l us) with
  | false => rw [compR_1 h1]; exact ⟨by simp, by simp [tot]⟩
  | true =>
    simp only [Bool.and_eq_true] at h1
    obtain ⟨⟨h1, h2⟩, h3⟩ := h1
    cases h : (mapOk n m fs && mapOk m l gs) with
    | false => rw [compR_2 h1 h2 h3 h]; exact ⟨by simp, by simp [tot]⟩
    | true =>
      have hm := h
      rw [Bool.and_eq_true] at hm
      obtain ⟨ms, e1, rfl, rfl, hl1, hA⟩ := alpha_ok h1
      obtain ⟨ks, e2, rfl, rfl, hl2, hB⟩ := alpha_ok h2
      obtain ⟨ls, e3, rfl, rfl, hl3, hC⟩ := alpha_ok h3
      obtain ⟨ff, e4, rfl, hi, hws⟩ := map_ok hm.1
      obtain ⟨gg, e5, rfl, hj, hwt⟩ := map_ok hm.2
      rw [compR_3 h1 h2 h3 h e1 e2 e3 e4 e5]
      split
      · split
        · exact ⟨by simp, by simp [tot]⟩
        · rename_i ha
          have ha' : ∀ w ∈ ff, ¬ 24 < (imgN gg w).length := fun w hw hh => ha (List.any_eq_true.2 ⟨w, hw, decide_eq_true hh⟩)
          have hlen : (List.map natI (ff.map fun w => nform ls (imgN gg w))).length ≤ 8 := by rw [List.length_map, List.length_map]; omega
          refine ⟨hlen, ?_⟩
          refine Nat.le_trans (tot_le (c := 24) fun r hr => ?_) (Nat.mul_le_mul_right 24 hlen)
          obtain ⟨x, hx, rfl⟩ := List.mem_map.1 hr
          obtain ⟨w, hw, rfl⟩ := List.mem_map.1 hx
          rw [natI_length, nform_length hC (imgN_wd hwt w)]
          have := ha' w hw
          omega
      · exact ⟨by simp, by simp [tot]⟩
theorem take_succ_map {α β : Type} {f : α → β} {w : List α} {i : Nat} (h : i < w.length) : (w.take (i + 1)).map f = (w.take i).map f ++ [f w[i]] := by
  rw [List.take_succ_eq_append_getElem h, List.map_append]
  rfl
theorem rowsC_raw (o : List (List Nat)) (v : List Nat) : Cell.sl false 1 (o.length + 1) (o.map (fun w => ints (natI w)) ++ [ints (natI v)]) = rowsC (o ++ [v]) := by simp [rowsC]
end Go.Proofs.YtpopepcmfanegaaDoor
