import Derived.Test.YtpopepcmfanegaaDoorFzb
set_option autoImplicit false
set_option linter.unusedSimpArgs false
set_option linter.unusedVariables false
namespace Go.Proofs.YtpopepcmfanegaaDoor
open Go.Den
/-! ### Reversing -/
theorem pj_reverse (a b : Nat) (w : List Nat) : pj a b w.reverse = (pj a b w).reverse := List.filter_reverse
theorem Eqv.reverse {ms u v : List Nat} (h : Eqv ms u v) : Eqv ms u.reverse v.reverse := fun a b hd => by rw [pj_reverse, pj_reverse, h a b hd]
theorem Wd.reverse {ms w : List Nat} (h : Wd ms w) : Wd ms w.reverse := fun c hc => h c (List.mem_reverse.1 hc)
/-- The words of a trace. -/
def wrds (ms : List Nat) : Nat → List Nat → List (List Nat)
  | 0, _ => [[]]
  | k + 1, w => (List.range ms.length).flatMap fun a => if canF ms a w then (wrds ms k (w.erase a)).map (a :: ·) else []
theorem len_flatMap (f : Nat → List (List Nat)) (g : Nat → Nat) (h : ∀ a, (f a).length = g a) : ∀ n, ((List.range n).flatMap f).length = sumN g n
  | 0 => rfl
  | n + 1 => by
    rw [List.range_succ, List.flatMap_append, List.length_append, len_flatMap f g h n]
    simp [sumN, h]
theorem wrds_length (ms : List Nat) : ∀ (k : Nat) (w : List Nat), w.length = k → (wrds ms k w).length = cls ms k w
  | 0, w, _ => by simp [wrds, cls]
  | k + 1, w, hk => by
    rw [wrds, cls]
    refine len_flatMap _ _ (fun a => ?_) _
    by_cases h : canF ms a w = true
    · rw [if_pos h, if_pos h, List.length_map, wrds_length ms k _ (by rw [List.length_erase_of_mem (canF_mem h)]; omega)]
    · rw [if_neg h, if_neg h]
      rfl
theorem wrds_mem {ms : List Nat} (hA : Alpha ms) : ∀ (k : Nat) {w v : List Nat}, Wd ms w → w.length = k → (v ∈ wrds ms k w ↔ Wd ms v ∧ Eqv ms v w)
  | 0, w, v, hw, hk => by
    obtain rfl := List.length_eq_zero_iff.1 hk
    simp only [wrds, List.mem_singleton]
    constructor
    · rintro rfl
      exact ⟨.nil ms, .refl _ _⟩
    · rintro ⟨hv, h⟩
      exact eqv_nil hA hv h
  | k + 1, w, v, hw, hk => by
    simp only [wrds, List.mem_flatMap, List.mem_range]
    constructor
    · rintro ⟨a, ha, h⟩
      by_cases hc : canF ms a w = true
      · rw [if_pos hc] at h
        obtain ⟨u, hu, rfl⟩ := List.mem_map.1 h
        obtain ⟨h1, h2⟩ := (wrds_mem hA k (hw.erase a) (by rw [List.length_erase_of_mem (canF_mem hc)]; omega)).1 hu
        exact ⟨h1.cons ha, (Eqv.append (.refl ms [a]) h2).trans (Eqv.cons_erase hA hc).symm⟩
      · rw [if_neg hc] at h
        cases h
    · rintro ⟨hv, h⟩
      cases v with
      | nil => exact absurd (h.length hA hv hw) (by simp; omega)
      | cons a u =>
        have ha := hv.head
        have hc : canF ms a w = true := by rw [← h.front hA ha]; exact canF_head ms a u
        refine ⟨a, ha, ?_⟩
        rw [if_pos hc]
        refine List.mem_map.2 ⟨u, (wrds_mem hA k (hw.erase a) (by rw [List.length_erase_of_mem (canF_mem hc)]; omega)).2 ⟨hv.tail, ?_⟩, rfl⟩
        exact Eqv.tail (h.trans (Eqv.cons_erase hA hc))
theorem wrds_nodup (ms : List Nat) : ∀ (k : Nat) (w : List Nat), (wrds ms k w).Nodup
  | 0, w => by simp [wrds]
  | k + 1, w => by
    rw [wrds]
    have : ∀ n, ((List.range n).flatMap fun a => if canF ms a w then (wrds ms k (w.erase a)).map (a :: ·) else []).Nodup := fun n => by
      induction n with
      | zero => simp
      | succ n ih =>
        rw [List.range_succ, List.flatMap_append]
        refine List.nodup_append.2 ⟨ih, ?_, ?_⟩
        · simp only [List.flatMap_cons, List.flatMap_nil, List.append_nil]
          split
          · exact List.Pairwise.map _ (fun a b hab e => hab (by simpa using e)) (wrds_nodup ms k _)
          · simp
        · intro x hx y hy e
          subst e
          simp only [List.flatMap_cons, List.flatMap_nil, List.append_nil] at hy
          obtain ⟨a, ha, hx⟩ := List.mem_flatMap.1 hx
          have ha := List.mem_range.1 ha
          split at hy
          · split at hx
            · obtain ⟨u, -, rfl⟩ := List.mem_map.1 hx
              obtain ⟨u', -, e⟩ := List.mem_map.1 hy
              injection e with e1 e2
              omega
            · cases hx
          · cases hy
    exact this _
theorem clsW_reverse {ms w : List Nat} (hA : Alpha ms) (hw : Wd ms w) : clsW ms w.reverse = clsW ms w := by
  unfold clsW
  have hm : ((wrds ms w.length w).map List.reverse).length = (wrds ms w.length w).length := List.length_map _
  rw [← wrds_length ms _ _ rfl, ← wrds_length ms _ w rfl, ← hm]
  refine List.Perm.length_eq ((List.perm_ext_iff_of_nodup (wrds_nodup _ _ _) ?_).2 fun v => ?_)
  · exact List.Pairwise.map _ (fun a b hab e => hab (List.reverse_inj.1 e)) (wrds_nodup _ _ _)
  · rw [wrds_mem hA _ hw.reverse rfl, List.mem_map]
    constructor
    · rintro ⟨hv, h⟩
      exact ⟨v.reverse, (wrds_mem hA _ hw rfl).2 ⟨hv.reverse, by simpa using h.reverse⟩, List.reverse_reverse v⟩
    · rintro ⟨u, hu, rfl⟩
      obtain ⟨h1, h2⟩ := (wrds_mem hA _ hw rfl).1 hu
      exact ⟨h1.reverse, h2.reverse⟩
/-- The normal form of the word turned round. -/
def backN (ms w : List Nat) : List Nat := nform ms w.reverse
theorem backN_wd {ms w : List Nat} (hA : Alpha ms) (hw : Wd ms w) : Wd ms (backN ms w) := nform_wd hA hw.reverse
theorem backN_eqv {ms w : List Nat} (hA : Alpha ms) (hw : Wd ms w) : Eqv ms (backN ms w) w.reverse := nform_eqv hA hw.reverse
theorem backN_len {ms w : List Nat} (hA : Alpha ms) (hw : Wd ms w) : (backN ms w).length = w.length := by rw [backN, nform_length hA hw.reverse, List.length_reverse]
theorem backN_back {ms w : List Nat} (hA : Alpha ms) (hw : Wd ms w) : backN ms (backN ms w) = nform ms w := by
  refine nform_congr hA (backN_wd hA hw).reverse hw ?_
  have := (backN_eqv hA hw).reverse
  rwa [List.reverse_reverse] at this
theorem backN_cls {ms w : List Nat} (hA : Alpha ms) (hw : Wd ms w) : clsW ms (backN ms w) = clsW ms w := by
  rw [clsW_congr hA (backN_wd hA hw) hw.reverse (backN_eqv hA hw), clsW_reverse hA hw]
theorem backN_nform {ms w : List Nat} (hA : Alpha ms) (hw : Wd ms w) : nform ms (backN ms w) = backN ms w := nform_congr hA (backN_wd hA hw) hw.reverse (backN_eqv hA hw)
/-- A prefix that is turned round is a suffix of the word that is turned round. -/
theorem back_cut {ms u v : List Nat} (hA : Alpha ms) (hu : Wd ms u) (hv : Wd ms v) : ∃ r, cut ms (backN ms u).reverse (backN ms (u ++ v)).reverse = some r ∧ Wd ms r ∧ nform ms r.reverse = backN ms v := by
  have h : Eqv ms (backN ms (u ++ v)).reverse ((backN ms u).reverse ++ v) := by
    have h1 := (backN_eqv hA (hu.append hv)).reverse
    rw [List.reverse_reverse] at h1
    have h2 := (backN_eqv hA hu).reverse
    rw [List.reverse_reverse] at h2
    exact h1.trans (Eqv.append h2.symm (.refl _ _))
  obtain ⟨r, hr, he⟩ := cut_of hA (backN_wd hA hu).reverse h
  have hw := cut_wd (backN_wd hA (hu.append hv)).reverse hr
  exact ⟨r, hr, hw, nform_congr hA hw.reverse hv.reverse he.reverse⟩
end Go.Proofs.YtpopepcmfanegaaDoor
