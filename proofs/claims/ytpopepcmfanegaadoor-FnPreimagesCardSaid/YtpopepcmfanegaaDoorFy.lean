import Derived.Test.YtpopepcmfanegaaDoorFx
set_option autoImplicit false
set_option linter.unusedSimpArgs false
set_option linter.unusedVariables false
namespace Go.Proofs.YtpopepcmfanegaaDoor
open Go.Den
theorem sameN_iff {ms u v : List Nat} (hA : Alpha ms) (hu : Wd ms u) (hv : Wd ms v) : sameN ms u v = true ↔ Eqv ms u v := by
  unfold sameN
  rw [decide_eq_true_eq, nform_iff hA hu hv]
theorem comN_iff {ms u v : List Nat} (hA : Alpha ms) (hu : Wd ms u) (hv : Wd ms v) : comN ms u v = true ↔ Eqv ms (u ++ v) (v ++ u) := sameN_iff hA (hu.append hv) (hv.append hu)
theorem imgN_cons (im : List (List Nat)) (a : Nat) (w : List Nat) : imgN im (a :: w) = im.getD a [] ++ imgN im w := rfl
theorem imgN_append (im : List (List Nat)) (u v : List Nat) : imgN im (u ++ v) = imgN im u ++ imgN im v := by simp [imgN]
theorem wds_getD {ds : List Nat} {im : List (List Nat)} (h : Wds ds im) (a : Nat) : Wd ds (im.getD a []) := by
  by_cases ha : a < im.length
  · exact (h.get ha).2
  · rw [List.getD_eq_getElem?_getD, List.getElem?_eq_none (by omega)]
    exact .nil _
theorem img_front {ms ds : List Nat} {im : List (List Nat)} (hA : Alpha ms) (hB : Alpha ds) (hi : Wds ds im) (hr : respN ms ds im = true) {a : Nat} (ha : a < ms.length) : ∀ {v : List Nat}, Wd ms v → canF ms a v = true → Eqv ds (imgN im v) (im.getD a [] ++ imgN im (v.erase a))
  | [], _, h => by simp [canF] at h
  | c :: v, hv, h => by
    by_cases e : c = a
    · subst e
      rw [List.erase_cons_head, imgN_cons]
      exact .refl _ _
    · simp only [canF, Bool.or_eq_true, beq_iff_eq, e, false_or, Bool.and_eq_true, Bool.not_eq_true'] at h
      have ih := img_front hA hB hi hr ha hv.tail h.2
      rw [List.erase_cons_tail (by simpa using e), imgN_cons, imgN_cons]
      have hcm := respN_all hA hr hv.head ha
      rw [h.1, Bool.false_or, comN_iff hB (wds_getD hi c) (wds_getD hi a)] at hcm
      refine ((Eqv.refl ds _).append ih).trans ?_
      rw [← List.append_assoc, ← List.append_assoc]
      exact hcm.append (.refl _ _)
/-- Words of the same trace have images of the same trace. -/
theorem img_eqv {ms ds : List Nat} {im : List (List Nat)} (hA : Alpha ms) (hB : Alpha ds) (hi : Wds ds im) (hr : respN ms ds im = true) : ∀ {u v : List Nat}, Wd ms u → Wd ms v → Eqv ms u v → Eqv ds (imgN im u) (imgN im v)
  | [], v, hu, hv, h => by
    rw [eqv_nil hA hv h.symm]
    exact .refl _ _
  | a :: u, v, hu, hv, h => by
    have hc : canF ms a v = true := by rw [← h.front hA hu.head]; exact canF_head ..
    have h2 : Eqv ms u (v.erase a) := Eqv.tail (h.trans (Eqv.cons_erase hA hc))
    have ih := img_eqv hA hB hi hr hu.tail (hv.erase a) h2
    rw [imgN_cons]
    exact ((Eqv.refl ds _).append ih).trans (img_front hA hB hi hr hu.head hv hc).symm
/-- The images of letters may be replaced by others of the same traces. -/
theorem img_congr {ds : List Nat} {im jm : List (List Nat)} (h : ∀ a, Eqv ds (im.getD a []) (jm.getD a [])) : ∀ w, Eqv ds (imgN im w) (imgN jm w)
  | [] => .refl _ _
  | a :: w => by
    rw [imgN_cons, imgN_cons]
    exact (h a).append (img_congr h w)
/-- The composition of letter maps. -/
def cmpN (ls : List Nat) (ff gg : List (List Nat)) : List (List Nat) := ff.map fun w => nform ls (imgN gg w)
theorem cmpN_getD {ls : List Nat} {ff gg : List (List Nat)} (a : Nat) : (cmpN ls ff gg).getD a [] = nform ls (imgN gg (ff.getD a [])) := by
  unfold cmpN
  rw [List.getD_eq_getElem?_getD, List.getD_eq_getElem?_getD, List.getElem?_map]
  cases ff[a]? with
  | none => rfl
  | some w => rfl
theorem img_img (ff gg : List (List Nat)) : ∀ w, imgN gg (imgN ff w) = w.flatMap fun a => imgN gg (ff.getD a [])
  | [] => rfl
  | a :: w => by
    rw [imgN_cons, imgN_append, img_img ff gg w]
    rfl
theorem img_cmp {ks ls : List Nat} {ff gg : List (List Nat)} (hC : Alpha ls) (hg : Wds ls gg) : ∀ w, Eqv ls (imgN gg (imgN ff w)) (imgN (cmpN ls ff gg) w)
  | [] => .refl _ _
  | a :: w => by
    rw [imgN_cons, imgN_append, imgN_cons, cmpN_getD]
    exact ((nform_eqv hC (imgN_wd hg _)).symm).append (img_cmp (ks := ks) hC hg w)
theorem cmpN_wds {ls : List Nat} {ff gg : List (List Nat)} (hC : Alpha ls) (hg : Wds ls gg) (hs : ∀ w ∈ ff, ¬ 24 < (imgN gg w).length) : Wds ls (cmpN ls ff gg) := by
  intro v hv
  obtain ⟨w, hw, rfl⟩ := List.mem_map.1 hv
  have h := hs w hw
  exact ⟨by rw [nform_length hC (imgN_wd hg w)]; omega, nform_wd hC (imgN_wd hg w)⟩
/-- The composition respects independence. -/
theorem cmpN_resp {ms ks ls : List Nat} {ff gg : List (List Nat)} (hA : Alpha ms) (hB : Alpha ks) (hC : Alpha ls) (hf : Wds ks ff) (hg : Wds ls gg) (h1 : respN ms ks ff = true) (h2 : respN ks ls gg = true) : respN ms ls (cmpN ls ff gg) = true := by
  refine respN_of fun a ha b hb => ?_
  have h := respN_all hA h1 ha (show b < ms.length by omega)
  rw [Bool.or_eq_true] at h ⊢
  rcases h with h | h
  · exact .inl h
  · right
    have hwa := wds_getD hf a
    have hwb := wds_getD hf b
    rw [comN_iff hB hwa hwb] at h
    have h3 := img_eqv hB hC hg h2 (hwa.append hwb) (hwb.append hwa) h
    rw [imgN_append, imgN_append] at h3
    rw [cmpN_getD, cmpN_getD, comN_iff hC (nform_wd hC (imgN_wd hg _)) (nform_wd hC (imgN_wd hg _))]
    have e1 := nform_eqv hC (imgN_wd hg (ff.getD a []))
    have e2 := nform_eqv hC (imgN_wd hg (ff.getD b []))
    exact ((e1.append e2).trans h3).trans (e2.symm.append e1.symm)
theorem nform_nat {ms u v : List Nat} (hA : Alpha ms) (hu : Wd ms u) (hv : Wd ms v) (h : Eqv ms u v) : nform ms u = nform ms v ∧ u.length = v.length := ⟨nform_congr hA hu hv h, h.length hA hu hv⟩
end Go.Proofs.YtpopepcmfanegaaDoor
