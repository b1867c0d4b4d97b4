import Derived.Test.YtljhmkkmcbfffaaDoorFv
set_option autoImplicit false
set_option linter.unusedSimpArgs false
set_option linter.unusedVariables false
namespace Go.Proofs.YtljhmkkmcbfffaaDoor
open Go.Den
/-- The product of the images of the letters of a word. -/
def imgN (im : List (List Nat)) (w : List Nat) : List Nat := w.flatMap fun a => im.getD a []
theorem imgN_succ {im : List (List Nat)} {w : List Nat} {i : Nat} (h : i < w.length) : imgN im (w.take (i + 1)) = imgN im (w.take i) ++ im.getD (w.getD i 0) [] := by
  rw [take_succ_getD h]
  simp [imgN]
theorem imgN_len {im : List (List Nat)} (hi : ∀ v ∈ im, v.length ≤ 24) (w : List Nat) : (imgN im w).length ≤ w.length * 24 := by
  induction w with
  | nil => simp [imgN]
  | cons a w ih =>
    have h1 : (im.getD a []).length ≤ 24 := by
      by_cases ha : a < im.length
      · rw [List.getD_eq_getElem?_getD, List.getElem?_eq_getElem ha, Option.getD_some]
        exact hi _ (List.getElem_mem ha)
      · rw [List.getD_eq_getElem?_getD, List.getElem?_eq_none (by omega)]
        simp
    have h2 : imgN im (a :: w) = im.getD a [] ++ imgN im w := rfl
    rw [h2, List.length_append, List.length_cons, Nat.succ_mul]
    omega
theorem imgN_wd {ds : List Nat} {im : List (List Nat)} (hi : Wds ds im) (w : List Nat) : Wd ds (imgN im w) := by
  intro c hc
  obtain ⟨a, -, ha⟩ := List.mem_flatMap.1 hc
  by_cases h : a < im.length
  · exact (hi.get h).2 c ha
  · rw [List.getD_eq_getElem?_getD, List.getElem?_eq_none (by omega)] at ha
    simp at ha
theorem ints_natI_append (u v : List Nat) : ints (natI (u ++ v)) = .sl false 1 ((natI u).length + (natI v).length) ((natI u).map i64 ++ (natI v).map i64) := by rw [natI_append, ints_append]
set_option maxHeartbeats 4000000 in
set_option maxRecDepth 100000 in
theorem image_ret (im : List (List Nat)) (w : List Nat) (hw : ∀ c ∈ w, c < im.length) (hl : w.length ≤ 2 ^ 20) (hi : ∀ v ∈ im, v.length ≤ 24) : Ret Tryd.prog G0 91 [⟨.ro, .one (rowsI (im.map natI))⟩, ⟨.ro, .one (ints (natI w))⟩] ⟨.one (ints (natI (imgN im w))), []⟩ := by
  have hil : (im.map natI).length = im.length := List.length_map _
  have hwl := natI_length w
  unfold rowsI
  (refine ret_of_den (E := en 23 [] (fun _ => [(5, 0), (10, 0), (11, 0), (0, 1), (9, 1)]) (fun _ => [])) tt_ok mixed Tryd.func91 rfl rfl rfl rfl ?_; refine ⟨by simp, ?_⟩)
  repeat (first | (refine opt_some (getC_rows rfl rfl (by omega)) ?_; conv => whnf) | (refine opt_some (by dsimp only; exact getC_lent rfl rfl (by omega)) ?_; conv => whnf) | (refine opt_some rfl ?_; conv => whnf) | (refine ⟨_, (by simp only [nf, nl, nm, en, ints, setC_setC, Nat.reduceAdd, Nat.reduceMul]; exact rfl), ?_⟩; conv => whnf) | (refine ⟨_, pick_at rfl (by first | omega | (simp only [plain_i64, plain_ints, plain_nil, all_ints]; done) | (dsimp only; omega) | exact Nat.le_of_ble_eq_true rfl | rfl | (simp; done) | (simp only [htf] at *; first | omega | (simp; omega))), ?_⟩; conv => whnf) | (refine ⟨_, rfl, ?_⟩; conv => whnf) | (first | refine iteP_true rfl ?_ | refine iteP_false rfl ?_ | refine iteP_true ‹_› ?_ | refine iteP_false ‹_› ?_; conv => whnf) | (refine And.intro (by kernel_rfl : indep _ _ = true) ?_; conv => whnf) | (refine And.intro (by rfl : List.all _ _ = true) ?_; conv => whnf) | (refine And.intro (by first | omega | (simp only [plain_i64, plain_ints, plain_nil, all_ints]; done) | (dsimp only; omega) | exact Nat.le_of_ble_eq_true rfl | rfl | (simp; done) | (simp only [htf] at *; first | omega | (simp; omega))) ?_; conv => whnf))
  refine ⟨fun k vs => ∃ i : Nat, i ≤ w.length ∧ vs = [.one (ints (natI (imgN im (w.take i)))), .one (i64 w.length), .one (i64 i), .one (.shd (.sl false 1 (im.map natI).length ((im.map natI).map ints))), .one (.shd (ints (natI w)))] ∧ k = w.length - i, rfl, ⟨_, 0, by omega, ?_, rfl⟩, ?_⟩
  · rw [← hwl]
    rfl
  rintro k vs ⟨i, hi', rfl, rfl⟩
  have hb := imgN_len hi (w.take i)
  have htl : (w.take i).length ≤ 2 ^ 20 := by rw [List.length_take]; omega
  have hnl := natI_length (imgN im (w.take i))
  repeat (first | (refine opt_some (getC_rows rfl rfl (by omega)) ?_; conv => whnf) | (refine opt_some (by dsimp only; exact getC_lent rfl rfl (by omega)) ?_; conv => whnf) | (refine opt_some rfl ?_; conv => whnf) | (refine ⟨_, (by simp only [nf, nl, nm, en, ints, setC_setC, Nat.reduceAdd, Nat.reduceMul]; exact rfl), ?_⟩; conv => whnf) | (refine ⟨_, pick_at rfl (by first | omega | (simp only [plain_i64, plain_ints, plain_nil, all_ints]; done) | (dsimp only; omega) | exact Nat.le_of_ble_eq_true rfl | rfl | (simp; done) | (simp only [htf] at *; first | omega | (simp; omega))), ?_⟩; conv => whnf) | (refine ⟨_, rfl, ?_⟩; conv => whnf) | (first | refine iteP_true rfl ?_ | refine iteP_false rfl ?_ | refine iteP_true ‹_› ?_ | refine iteP_false ‹_› ?_; conv => whnf) | (refine And.intro (by kernel_rfl : indep _ _ = true) ?_; conv => whnf) | (refine And.intro (by rfl : List.all _ _ = true) ?_; conv => whnf) | (refine And.intro (by first | omega | (simp only [plain_i64, plain_ints, plain_nil, all_ints]; done) | (dsimp only; omega) | exact Nat.le_of_ble_eq_true rfl | rfl | (simp; done) | (simp only [htf] at *; first | omega | (simp; omega))) ?_; conv => whnf))
  refine iteP_intro (fun hb => ?_) (fun hb => ?_) <;> (conv => whnf)
  · have hi'' : i < w.length := by have := leT hb; omega
    have hg : (natI w)[i]'(by rw [hwl]; exact hi'') = ((w.getD i 0 : Nat) : Int) := natI_getD hi''
    have hc : w.getD i 0 < im.length := by
      rw [List.getD_eq_getElem?_getD, List.getElem?_eq_getElem hi'', Option.getD_some]
      exact hw _ (List.getElem_mem hi'')
    have hsu := imgN_succ (im := im) hi''
    generalize w.getD i 0 = a at hg hc hsu
    have hga := rows_get (im := im) (a := a) hc (by omega)
    have hil : (im.getD a []).length ≤ 24 := by
      rw [List.getD_eq_getElem?_getD, List.getElem?_eq_getElem hc, Option.getD_some]
      exact hi _ (List.getElem_mem hc)
    have hnl2 := natI_length (im.getD a [])
    repeat (first | (refine opt_some (getC_rows rfl rfl (by omega)) ?_; conv => whnf) | (refine opt_some (by dsimp only; exact getC_lent rfl rfl (by omega)) ?_; conv => whnf) | (refine opt_some rfl ?_; conv => whnf) | (refine ⟨_, (by simp only [nf, nl, nm, en, ints, setC_setC, Nat.reduceAdd, Nat.reduceMul, hg, hga]; exact rfl), ?_⟩; conv => whnf) | (refine ⟨_, pick_at rfl (by first | omega | (simp only [plain_i64, plain_ints, plain_nil, all_ints]; done) | (dsimp only; omega) | exact Nat.le_of_ble_eq_true rfl | rfl | (simp; done) | (simp only [htf] at *; first | omega | (simp; omega))), ?_⟩; conv => whnf) | (refine ⟨_, rfl, ?_⟩; conv => whnf) | (first | refine iteP_true rfl ?_ | refine iteP_false rfl ?_ | refine iteP_true ‹_› ?_ | refine iteP_false ‹_› ?_; conv => whnf) | (refine And.intro (by kernel_rfl : indep _ _ = true) ?_; conv => whnf) | (refine And.intro (by rfl : List.all _ _ = true) ?_; conv => whnf) | (refine And.intro (by first | omega | (simp only [plain_i64, plain_ints, plain_nil, all_ints]; done) | (dsimp only; omega) | exact Nat.le_of_ble_eq_true rfl | rfl | (simp; done) | (simp only [htf] at *; first | omega | (simp; omega))) ?_; conv => whnf))
    refine ⟨_, ?_, i + 1, hi'', ?_, rfl⟩
    · omega
    · rw [wrap_succ (by omega), hsu, ints_natI_append]
      rfl
  · obtain rfl : i = w.length := by have := leF hb; omega
    rw [List.take_length]
    repeat' (first | (refine opt_some (getC_rows rfl rfl (by omega)) ?_; conv => whnf) | (refine opt_some (by dsimp only; exact getC_lent rfl rfl (by omega)) ?_; conv => whnf) | (refine opt_some rfl ?_; conv => whnf) | (refine ⟨_, (by simp only [nf, nl, nm, en, ints, setC_setC, Nat.reduceAdd, Nat.reduceMul]; exact rfl), ?_⟩; conv => whnf) | (refine ⟨_, pick_at rfl (by first | omega | (simp only [plain_i64, plain_ints, plain_nil, all_ints]; done) | (dsimp only; omega) | exact Nat.le_of_ble_eq_true rfl | rfl | (simp; done) | (simp only [htf] at *; first | omega | (simp; omega))), ?_⟩; conv => whnf) | (refine ⟨_, rfl, ?_⟩; conv => whnf) | (first | refine iteP_true rfl ?_ | refine iteP_false rfl ?_ | refine iteP_true ‹_› ?_ | refine iteP_false ‹_› ?_; conv => whnf) | (refine And.intro (by kernel_rfl : indep _ _ = true) ?_; conv => whnf) | (refine And.intro (by rfl : List.all _ _ = true) ?_; conv => whnf) | (refine And.intro (by first | omega | (simp only [plain_i64, plain_ints, plain_nil, all_ints]; done) | (dsimp only; omega) | exact Nat.le_of_ble_eq_true rfl | rfl | (simp; done) | (simp only [htf] at *; first | omega | (simp; omega))) ?_; conv => whnf) | (refine iteP_intro (fun hb => ?_) (fun hb => ?_) <;> (conv => whnf)))
    rfl
set_option maxHeartbeats 4000000 in
set_option maxRecDepth 100000 in
theorem l08Image_ret (im : List (List Nat)) (w : List Nat) (hw : ∀ c ∈ w, c < im.length) (hl : w.length ≤ 2 ^ 20) (hi : ∀ v ∈ im, v.length ≤ 24) : Ret Tryd.prog G0 89 [⟨.ro, .one (rowsI (im.map natI))⟩, ⟨.ro, .one (ints (natI w))⟩] ⟨.one (ints (natI (imgN im w))), []⟩ := by
  have hil : (im.map natI).length = im.length := List.length_map _
  have hwl := natI_length w
  unfold rowsI
  (refine ret_of_den (E := en 24 [] (fun _ => [(5, 0), (6, 0), (0, 1), (1, 1)]) (fun _ => [])) tt_ok mixed Tryd.func89 rfl rfl rfl rfl ?_; refine ⟨by simp, ?_⟩)
  repeat (first | (refine opt_some (getC_rows rfl rfl (by omega)) ?_; conv => whnf) | (refine opt_some (by dsimp only; exact getC_lent rfl rfl (by omega)) ?_; conv => whnf) | (refine opt_some rfl ?_; conv => whnf) | (refine ⟨_, (by simp only [nf, nl, nm, en, ints, setC_setC, Nat.reduceAdd, Nat.reduceMul]; exact rfl), ?_⟩; conv => whnf) | (refine ⟨_, pick_at rfl (by first | omega | (simp only [plain_i64, plain_ints, plain_nil, all_ints]; done) | (dsimp only; omega) | exact Nat.le_of_ble_eq_true rfl | rfl | (simp; done) | (simp only [htf] at *; first | omega | (simp; omega))), ?_⟩; conv => whnf) | (refine ⟨_, rfl, ?_⟩; conv => whnf) | (first | refine iteP_true rfl ?_ | refine iteP_false rfl ?_ | refine iteP_true ‹_› ?_ | refine iteP_false ‹_› ?_; conv => whnf) | (refine And.intro (by kernel_rfl : indep _ _ = true) ?_; conv => whnf) | (refine And.intro (by rfl : List.all _ _ = true) ?_; conv => whnf) | (refine And.intro (by first | omega | (simp only [plain_i64, plain_ints, plain_nil, all_ints]; done) | (dsimp only; omega) | exact Nat.le_of_ble_eq_true rfl | rfl | (simp; done) | (simp only [htf] at *; first | omega | (simp; omega))) ?_; conv => whnf))
  refine ⟨fun k vs => ∃ i : Nat, i ≤ w.length ∧ vs = [.one (ints (natI (imgN im (w.take i)))), .one (i64 i), .one (.shd (.sl false 1 (im.map natI).length ((im.map natI).map ints))), .one (.shd (ints (natI w)))] ∧ k = w.length - i, rfl, ⟨_, 0, by omega, ?_, rfl⟩, ?_⟩
  · rfl
  rintro k vs ⟨i, hi', rfl, rfl⟩
  have hb := imgN_len hi (w.take i)
  have htl : (w.take i).length ≤ 2 ^ 20 := by rw [List.length_take]; omega
  have hnl := natI_length (imgN im (w.take i))
  repeat (first | (refine opt_some (getC_rows rfl rfl (by omega)) ?_; conv => whnf) | (refine opt_some (by dsimp only; exact getC_lent rfl rfl (by omega)) ?_; conv => whnf) | (refine opt_some rfl ?_; conv => whnf) | (refine ⟨_, (by simp only [nf, nl, nm, en, ints, setC_setC, Nat.reduceAdd, Nat.reduceMul]; exact rfl), ?_⟩; conv => whnf) | (refine ⟨_, pick_at rfl (by first | omega | (simp only [plain_i64, plain_ints, plain_nil, all_ints]; done) | (dsimp only; omega) | exact Nat.le_of_ble_eq_true rfl | rfl | (simp; done) | (simp only [htf] at *; first | omega | (simp; omega))), ?_⟩; conv => whnf) | (refine ⟨_, rfl, ?_⟩; conv => whnf) | (first | refine iteP_true rfl ?_ | refine iteP_false rfl ?_ | refine iteP_true ‹_› ?_ | refine iteP_false ‹_› ?_; conv => whnf) | (refine And.intro (by kernel_rfl : indep _ _ = true) ?_; conv => whnf) | (refine And.intro (by rfl : List.all _ _ = true) ?_; conv => whnf) | (refine And.intro (by first | omega | (simp only [plain_i64, plain_ints, plain_nil, all_ints]; done) | (dsimp only; omega) | exact Nat.le_of_ble_eq_true rfl | rfl | (simp; done) | (simp only [htf] at *; first | omega | (simp; omega))) ?_; conv => whnf))
  refine iteP_intro (fun hb => ?_) (fun hb => ?_) <;> (conv => whnf)
  · have hi'' : i < w.length := by have := leT hb; omega
    have hg : (natI w)[i]'(by rw [hwl]; exact hi'') = ((w.getD i 0 : Nat) : Int) := natI_getD hi''
    have hc : w.getD i 0 < im.length := by
      rw [List.getD_eq_getElem?_getD, List.getElem?_eq_getElem hi'', Option.getD_some]
      exact hw _ (List.getElem_mem hi'')
    have hsu := imgN_succ (im := im) hi''
    generalize w.getD i 0 = a at hg hc hsu
    have hga := rows_get (im := im) (a := a) hc (by omega)
    have hil : (im.getD a []).length ≤ 24 := by
      rw [List.getD_eq_getElem?_getD, List.getElem?_eq_getElem hc, Option.getD_some]
      exact hi _ (List.getElem_mem hc)
    have hnl2 := natI_length (im.getD a [])
    repeat (first | (refine opt_some (getC_rows rfl rfl (by omega)) ?_; conv => whnf) | (refine opt_some (by dsimp only; exact getC_lent rfl rfl (by omega)) ?_; conv => whnf) | (refine opt_some rfl ?_; conv => whnf) | (refine ⟨_, (by simp only [nf, nl, nm, en, ints, setC_setC, Nat.reduceAdd, Nat.reduceMul, hg, hga]; exact rfl), ?_⟩; conv => whnf) | (refine ⟨_, pick_at rfl (by first | omega | (simp only [plain_i64, plain_ints, plain_nil, all_ints]; done) | (dsimp only; omega) | exact Nat.le_of_ble_eq_true rfl | rfl | (simp; done) | (simp only [htf] at *; first | omega | (simp; omega))), ?_⟩; conv => whnf) | (refine ⟨_, rfl, ?_⟩; conv => whnf) | (first | refine iteP_true rfl ?_ | refine iteP_false rfl ?_ | refine iteP_true ‹_› ?_ | refine iteP_false ‹_› ?_; conv => whnf) | (refine And.intro (by kernel_rfl : indep _ _ = true) ?_; conv => whnf) | (refine And.intro (by rfl : List.all _ _ = true) ?_; conv => whnf) | (refine And.intro (by first | omega | (simp only [plain_i64, plain_ints, plain_nil, all_ints]; done) | (dsimp only; omega) | exact Nat.le_of_ble_eq_true rfl | rfl | (simp; done) | (simp only [htf] at *; first | omega | (simp; omega))) ?_; conv => whnf))
    refine ⟨_, ?_, i + 1, hi'', ?_, rfl⟩
    · omega
    · rw [wrap_succ (by omega), hsu, ints_natI_append]
      rfl
  · obtain rfl : i = w.length := by have := leF hb; omega
    rw [List.take_length]
    repeat' (first | (refine opt_some (getC_rows rfl rfl (by omega)) ?_; conv => whnf) | (refine opt_some (by dsimp only; exact getC_lent rfl rfl (by omega)) ?_; conv => whnf) | (refine opt_some rfl ?_; conv => whnf) | (refine ⟨_, (by simp only [nf, nl, nm, en, ints, setC_setC, Nat.reduceAdd, Nat.reduceMul]; exact rfl), ?_⟩; conv => whnf) | (refine ⟨_, pick_at rfl (by first | omega | (simp only [plain_i64, plain_ints, plain_nil, all_ints]; done) | (dsimp only; omega) | exact Nat.le_of_ble_eq_true rfl | rfl | (simp; done) | (simp only [htf] at *; first | omega | (simp; omega))), ?_⟩; conv => whnf) | (refine ⟨_, rfl, ?_⟩; conv => whnf) | (first | refine iteP_true rfl ?_ | refine iteP_false rfl ?_ | refine iteP_true ‹_› ?_ | refine iteP_false ‹_› ?_; conv => whnf) | (refine And.intro (by kernel_rfl : indep _ _ = true) ?_; conv => whnf) | (refine And.intro (by rfl : List.all _ _ = true) ?_; conv => whnf) | (refine And.intro (by first | omega | (simp only [plain_i64, plain_ints, plain_nil, all_ints]; done) | (dsimp only; omega) | exact Nat.le_of_ble_eq_true rfl | rfl | (simp; done) | (simp only [htf] at *; first | omega | (simp; omega))) ?_; conv => whnf) | (refine iteP_intro (fun hb => ?_) (fun hb => ?_) <;> (conv => whnf)))
    rfl
end Go.Proofs.YtljhmkkmcbfffaaDoor
