import Derived.Test.YtpopepcmfanegaaDoorFzm
set_option autoImplicit false
set_option linter.unusedSimpArgs false
set_option linter.unusedVariables false
namespace Go.Proofs.YtpopepcmfanegaaDoor
open Go.Den
theorem prP_ok {ms ks v : List Nat} {im : List (List Nat)} (hA : Alpha ms) (hB : Alpha ks) (hw : Wds ks im) (hne : ∀ v ∈ im, v.length ≠ 0) (hi : im.length = ms.length) (hv : Wd ks v) (hl : v.length ≤ 24) : ∀ e ∈ prP ms ks im v.length [] v, Wd ms e ∧ e.length ≤ 24 ∧ nform ks (imgN im e) = nform ks v ∧ (imgN im e).length = v.length := fun e he => by
  obtain ⟨t, he', ht, htl, hE⟩ := prP_mem hB hne hi v.length [] v (Nat.le_refl _) e he
  rw [List.nil_append] at he'
  rw [he']
  have := nform_nat hB (imgN_wd hw t) hv hE
  exact ⟨ht, by omega, this.1, this.2⟩
theorem prP_up {ms ks : List Nat} {im : List (List Nat)} (k : Nat) (v : List Nat) : ∀ i (h : i + 1 < ((prP ms ks im k [] v).map natI).length), lsL (((prP ms ks im k [] v).map natI)[i]'(by omega)) ((prP ms ks im k [] v).map natI)[i + 1] = true := fun i h => by
  have hp := List.pairwise_iff_getElem.1 (prP_sorted (ms := ms) (ds := ks) (im := im) k [] v)
  rw [List.length_map] at h
  rw [List.getElem_map, List.getElem_map]
  exact lsL_of (hp i (i + 1) (by omega) h (by omega))
theorem prP_has {ms ks u : List Nat} {im : List (List Nat)} (hA : Alpha ms) (hB : Alpha ks) (hw : Wds ks im) (hr : respN ms ks im = true) (hne : ∀ v ∈ im, v.length ≠ 0) (hi : im.length = ms.length) (hu : Wd ms u) : nform ms u ∈ prP ms ks im (nform ks (imgN im u)).length [] (nform ks (imgN im u)) := by
  have hn := nform_wd hA hu
  have hE := img_eqv hA hB hw hr hn hu (nform_eqv hA hu)
  have hI := imgN_wd hw u
  have h1 : nrm ms (nform ms u) = true := (nrm_iff hn).1 (nform_congr hA hn hu (nform_eqv hA hu))
  have := prP_all hB hw hne hi (nform ks (imgN im u)).length [] (nform ms u) (nform ks (imgN im u)) hn (nform_wd hB hI) (Nat.le_refl _) (by simpa using h1) (hE.trans (nform_eqv hB hI).symm)
  simpa using this
theorem preR_in {ms ks v : List Nat} {im : List (List Nat)} (h1 : alphaOk ms.length (natI ms) = true) (h2 : alphaOk ks.length (natI ks) = true) (e1 : (natI ms).map Int.toNat = ms) (e2 : (natI ks).map Int.toNat = ks) (hl : im.length = ms.length) (hw : Wds ks im) (hr : respN ms ks im = true) (hne : ∀ v ∈ im, v.length ≠ 0) (hv : Wd ks v) (hvl : v.length ≤ 24) : preR ms.length (natI ms) ks.length (natI ks) (im.map natI) (natI v) = if 1000 < (prG ms ks im v.length [] v []).length then ([], 3) else (prP ms ks im v.length [] v, 0) := by
  rw [preR_ok (by rw [wordN_of hv hvl]; exact morph_0 h1 h2 e1 e2 hl hw hr) e1 e2 (map_nat im) (map_toNat v) (natI_length v)]
  have ha : (im.any fun w => decide (w.length = 0)) = false := by
    rw [List.any_eq_false]
    intro w hw' h
    exact hne w hw' (of_decide_eq_true h)
  rw [if_neg (by rw [ha]; simp)]
  split
  · rfl
  · rename_i hh
    rw [prG_pure _ _ _ _ (by omega), List.nil_append]
theorem rowsx {L : List (List Nat)} (h : ∀ e ∈ L, e.length ≤ 24) : ∀ r ∈ L.map natI, r.length < 2 ^ 62 := fun r hr => by
  obtain ⟨w, hw, rfl⟩ := List.mem_map.1 hr
  have := h w hw
  rw [natI_length]
  omega
end Go.Proofs.YtpopepcmfanegaaDoor
