import Derived.Test.YtpopepcmfanegaaDoorFzh
set_option autoImplicit false
set_option linter.unusedSimpArgs false
set_option linter.unusedVariables false
namespace Go.Proofs.YtpopepcmfanegaaDoor
open Go.Den
theorem compR_0 {n : Int} {ds : List Int} {m : Int} {es : List Int} {l : Int} {us : List Int} {fs gs : List (List Int)} (h : (compR n ds m es l us fs gs).2 = 0) : ∃ (ms ks ls : List Nat) (ff gg : List (List Nat)), n = ms.length ∧ ds = natI ms ∧ m = ks.length ∧ es = natI ks ∧ l = ls.length ∧ us = natI ls ∧ ms.length ≤ 8 ∧ ks.length ≤ 8 ∧ ls.length ≤ 8 ∧ Alpha ms ∧ Alpha ks ∧ Alpha ls ∧ fs = ff.map natI ∧ gs = gg.map natI ∧ ff.length = ms.length ∧ gg.length = ks.length ∧ Wds ks ff ∧ Wds ls gg ∧ respN ms ks ff = true ∧ respN ks ls gg = true ∧ (∀ w ∈ ff, ¬ 24 < (imgN gg w).length) ∧ (compR n ds m es l us fs gs).1 = cmpN ls ff gg ∧ alphaOk ms.length (natI ms) = true ∧ alphaOk ks.length (natI ks) = true ∧ alphaOk ls.length (natI ls) = true ∧ (natI ms).map Int.toNat = ms ∧ (natI ks).map Int.toNat = ks ∧ (natI ls).map Int.toNat = ls := by
  cases h1 : (alphaOk n ds && alphaOk m es && alphaOk l us) with
  | false => rw [compR_1 h1] at h; cases h
  | true =>
    simp only [Bool.and_eq_true] at h1
    obtain ⟨⟨h1, h2⟩, h3⟩ := h1
    cases h4 : (mapOk n m fs && mapOk m l gs) with
    | false => rw [compR_2 h1 h2 h3 h4] at h; cases h
    | true =>
      have hm := h4
      rw [Bool.and_eq_true] at hm
      obtain ⟨ms, e1, rfl, rfl, hl1, hA⟩ := alpha_ok h1
      obtain ⟨ks, e2, rfl, rfl, hl2, hB⟩ := alpha_ok h2
      obtain ⟨ls, e3, rfl, rfl, hl3, hC⟩ := alpha_ok h3
      obtain ⟨ff, e4, rfl, hi, hws⟩ := map_ok hm.1
      obtain ⟨gg, e5, rfl, hj, hwt⟩ := map_ok hm.2
      have hR := compR_3 h1 h2 h3 h4 e1 e2 e3 e4 e5
      rw [hR] at h
      split at h
      · rename_i hr
        rw [if_pos hr] at hR
        split at h
        · cases h
        · rename_i ha
          rw [if_neg ha] at hR
          rw [Bool.and_eq_true] at hr
          exact ⟨ms, ks, ls, ff, gg, rfl, rfl, rfl, rfl, rfl, rfl, hl1, hl2, hl3, hA, hB, hC, rfl, rfl, hi, hj, hws, hwt, hr.1, hr.2, fun w hw hh => ha (List.any_eq_true.2 ⟨w, hw, decide_eq_true hh⟩), by rw [hR]; rfl, h1, h2, h3, e1, e2, e3⟩
      · cases h
theorem map_nat (im : List (List Nat)) : (im.map natI).map (·.map Int.toNat) = im := by
  rw [List.map_map]
  exact (List.map_congr_left fun w _ => map_toNat w).trans (List.map_id _)
theorem mapOk_of {n : Nat} {ks : List Nat} {im : List (List Nat)} (hl : im.length = n) (hw : Wds ks im) : mapOk n ks.length (im.map natI) = true := by
  unfold mapOk
  rw [List.length_map, Bool.and_eq_true, decide_eq_true_eq]
  refine ⟨by omega, List.all_eq_true.2 fun r hr => ?_⟩
  obtain ⟨w, hw', rfl⟩ := List.mem_map.1 hr
  exact wordN_of (hw w hw').2 (hw w hw').1
theorem morph_0 {ms ks : List Nat} {im : List (List Nat)} (h1 : alphaOk ms.length (natI ms) = true) (h2 : alphaOk ks.length (natI ks) = true) (e1 : (natI ms).map Int.toNat = ms) (e2 : (natI ks).map Int.toNat = ks) (hl : im.length = ms.length) (hw : Wds ks im) (hr : respN ms ks im = true) : morphC ms.length (natI ms) ks.length (natI ks) (im.map natI) true = 0 := by
  rw [morphC_3 h1 h2 (by rw [mapOk_of hl hw]; rfl) e1 e2 (map_nat im), hr]
  rfl
theorem imgR_in {ms ks w : List Nat} {im : List (List Nat)} (h1 : alphaOk ms.length (natI ms) = true) (h2 : alphaOk ks.length (natI ks) = true) (e1 : (natI ms).map Int.toNat = ms) (e2 : (natI ks).map Int.toNat = ks) (hl : im.length = ms.length) (hw : Wds ks im) (hr : respN ms ks im = true) (hwd : Wd ms w) (hwl : w.length ≤ 24) : imgR ms.length (natI ms) ks.length (natI ks) (im.map natI) (natI w) = if 24 < (imgN im w).length then ([], 3) else (nform ks (imgN im w), 0) :=
  imgR_ok (by rw [wordN_of hwd hwl]; exact morph_0 h1 h2 e1 e2 hl hw hr) e2 (map_nat im) (map_toNat w)
theorem cmp_img {ks ls w : List Nat} {ff gg : List (List Nat)} (hB : Alpha ks) (hC : Alpha ls) (hf : Wds ks ff) (hg : Wds ls gg) (h2 : respN ks ls gg = true) : nform ls (imgN gg (nform ks (imgN ff w))) = nform ls (imgN (cmpN ls ff gg) w) ∧ (imgN gg (nform ks (imgN ff w))).length = (imgN (cmpN ls ff gg) w).length := by
  by_cases hs : ∀ v ∈ cmpN ls ff gg, Wd ls v
  · have hwd : ∀ w, Wd ls (imgN (cmpN ls ff gg) w) := fun w c hc => by
      obtain ⟨a, -, ha⟩ := List.mem_flatMap.1 hc
      by_cases h : a < (cmpN ls ff gg).length
      · rw [List.getD_eq_getElem?_getD, List.getElem?_eq_getElem h, Option.getD_some] at ha
        exact hs _ (List.getElem_mem h) c ha
      · rw [List.getD_eq_getElem?_getD, List.getElem?_eq_none (by omega)] at ha
        simp at ha
    have hfw := imgN_wd hf w
    have h3 := img_eqv hB hC hg h2 (nform_wd hB hfw) hfw (nform_eqv hB hfw)
    exact nform_nat hC (imgN_wd hg _) (hwd w) (h3.trans (img_cmp (ks := ks) hC hg w))
  · exact absurd (fun v hv => by
      obtain ⟨u, -, rfl⟩ := List.mem_map.1 hv
      exact nform_wd hC (imgN_wd hg u)) hs
end Go.Proofs.YtpopepcmfanegaaDoor
