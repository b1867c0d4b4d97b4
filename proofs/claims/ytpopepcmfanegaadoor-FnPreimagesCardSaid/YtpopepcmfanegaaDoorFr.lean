import Derived.Test.YtpopepcmfanegaaDoorFq
set_option autoImplicit false
set_option linter.unusedSimpArgs false
set_option linter.unusedVariables false
namespace Go.Proofs.YtpopepcmfanegaaDoor
open Go.Den
/-- The product of the images of the letters of a word. -/
def imgN (im : List (List Nat)) (w : List Nat) : List Nat := w.flatMap fun a => im.getD a []
theorem imgN_succ {im : List (List Nat)} {w : List Nat} {i : Nat} (h : i < w.length) : imgN im (w.take (i + 1)) = imgN im (w.take i) ++ im.getD (w.getD i 0) [] := by
  rw [take_succ_getD h]
  simp [imgN]
theorem imgN_len {im : List (List Nat)} (hi : ∀ v ∈ im, v.length ≤ 24) (w : List Nat) : (imgN im w).length ≤ w.length * 24 := by
  induction w with
  | nil => simp [imgN]
  | cons a w ih =>
    have h1 : (im.getD a []).length ≤ 24 := by
      by_cases ha : a < im.length
      · rw [List.getD_eq_getElem?_getD, List.getElem?_eq_getElem ha, Option.getD_some]
        exact hi _ (List.getElem_mem ha)
      · rw [List.getD_eq_getElem?_getD, List.getElem?_eq_none (by omega)]
        simp
    have h2 : imgN im (a :: w) = im.getD a [] ++ imgN im w := rfl
    rw [h2, List.length_append, List.length_cons, Nat.succ_mul]
    omega
theorem imgN_wd {ds : List Nat} {im : List (List Nat)} (hi : Wds ds im) (w : List Nat) : Wd ds (imgN im w) := by
  intro c hc
  obtain ⟨a, -, ha⟩ := List.mem_flatMap.1 hc
  by_cases h : a < im.length
  · exact (hi.get h).2 c ha
  · rw [List.getD_eq_getElem?_getD, List.getElem?_eq_none (by omega)] at ha
    simp at ha
theorem ints_natI_append (u v : List Nat) : ints (natI (u ++ v)) = .sl false 1 ((natI u).length + (natI v).length) ((natI u).map i64 ++ (natI v).map i64) := by rw [natI_append, ints_append]
set_option maxHeartbeats 4000000 in
set_option maxRecDepth 100000 in
theorem image_ret (im : List (List Nat)) (w : List Nat) (hw : ∀ c ∈ w, c < im.length) (hl : w.length ≤ 2 ^ 20) (hi : ∀ v ∈ im, v.length ≤ 24) : Ret Tryd.prog G0 75 [⟨.ro, .one (rowsI (im.map natI))⟩, ⟨.ro, .one (ints (natI w))⟩] ⟨.one (ints (natI (imgN im w))), []⟩ := by
  have hil : (im.map natI).length = im.length := List.length_map _
  have hwl := natI_length w
  unfold rowsI
  (refine ret_of_den (E := en 23 [] (fun _ => [(5, 0), (10, 0), (11, 0), (0, 1), (9, 1)]) (fun _ => [])) tt_ok mixed Tryd.func75 rfl rfl rfl rfl ?_; refine ⟨by simp, ?_⟩)
  repeat (first | ((first | refine opt_some (getC_rows rfl rfl (by omega)) ?_ | refine opt_some (by dsimp only; exact getC_lent rfl rfl (by omega)) ?_ | refine opt_some rfl ?_ | refine ⟨_, (by simp only [nf, nl, nm, en, ints, setC_setC, Nat.reduceAdd, Nat.reduceMul]; exact rfl), ?_⟩ | refine ⟨_, pickT rfl, ?_⟩ | refine ⟨_, rfl, ?_⟩ | refine iteP_true rfl ?_ | refine iteP_false rfl ?_ | refine iteP_true ‹_› ?_ | refine iteP_false ‹_› ?_ | refine andK ?_ | refine andA ?_ | refine andT ?_); conv => whnf))
  refine ⟨fun k vs => ∃ i : Nat, i ≤ w.length ∧ vs = [.one (ints (natI (imgN im (w.take i)))), .one (i64 w.length), .one (i64 i), .one (.shd (.sl false 1 (im.map natI).length ((im.map natI).map ints))), .one (.shd (ints (natI w)))] ∧ k = w.length - i, rfl, ⟨_, 0, by omega, ?_, rfl⟩, ?_⟩
  · rw [← hwl]
    rfl
  rintro k vs ⟨i, hi', rfl, rfl⟩
  have hb := imgN_len hi (w.take i)
  have htl : (w.take i).length ≤ 2 ^ 20 := by rw [List.length_take]; omega
  have hnl := natI_length (imgN im (w.take i))
  repeat (first | ((first | refine opt_some (getC_rows rfl rfl (by omega)) ?_ | refine opt_some (by dsimp only; exact getC_lent rfl rfl (by omega)) ?_ | refine opt_some rfl ?_ | refine ⟨_, (by simp only [nf, nl, nm, en, ints, setC_setC, Nat.reduceAdd, Nat.reduceMul]; exact rfl), ?_⟩ | refine ⟨_, pickT rfl, ?_⟩ | refine ⟨_, rfl, ?_⟩ | refine iteP_true rfl ?_ | refine iteP_false rfl ?_ | refine iteP_true ‹_› ?_ | refine iteP_false ‹_› ?_ | refine andK ?_ | refine andA ?_ | refine andT ?_); conv => whnf))
  refine iteP_intro (fun hb => ?_) (fun hb => ?_) <;> (conv => whnf)
  · have hi'' : i < w.length := by have := leT hb; omega
    have hg : (natI w)[i]'(by rw [hwl]; exact hi'') = ((w.getD i 0 : Nat) : Int) := natI_getD hi''
    have hc : w.getD i 0 < im.length := by
      rw [List.getD_eq_getElem?_getD, List.getElem?_eq_getElem hi'', Option.getD_some]
      exact hw _ (List.getElem_mem hi'')
    have hsu := imgN_succ (im := im) hi''
    generalize w.getD i 0 = a at hg hc hsu
    have hga := rows_get (im := im) (a := a) hc (by omega)
    have hil : (im.getD a []).length ≤ 24 := by
      rw [List.getD_eq_getElem?_getD, List.getElem?_eq_getElem hc, Option.getD_some]
      exact hi _ (List.getElem_mem hc)
    have hnl2 := natI_length (im.getD a [])
    repeat (first | ((first | refine opt_some (getC_rows rfl rfl (by omega)) ?_ | refine opt_some (by dsimp only; exact getC_lent rfl rfl (by omega)) ?_ | refine opt_some rfl ?_ | refine ⟨_, (by simp only [nf, nl, nm, en, ints, setC_setC, Nat.reduceAdd, Nat.reduceMul, hg, hga]; exact rfl), ?_⟩ | refine ⟨_, pickT rfl, ?_⟩ | refine ⟨_, rfl, ?_⟩ | refine iteP_true rfl ?_ | refine iteP_false rfl ?_ | refine iteP_true ‹_› ?_ | refine iteP_false ‹_› ?_ | refine andK ?_ | refine andA ?_ | refine andT ?_); conv => whnf))
    refine ⟨_, ?_, i + 1, hi'', ?_, rfl⟩
    · omega
    · rw [wrap_succ (by omega), hsu, ints_natI_append]
      rfl
  · obtain rfl : i = w.length := by have := leF hb; omega
    rw [List.take_length]
    repeat' (first | ((first | refine opt_some (getC_rows rfl rfl (by omega)) ?_ | refine opt_some (by dsimp only; exact getC_lent rfl rfl (by omega)) ?_ | refine opt_some rfl ?_ | refine ⟨_, (by simp only [nf, nl, nm, en, ints, setC_setC, Nat.reduceAdd, Nat.reduceMul]; exact rfl), ?_⟩ | refine ⟨_, pickT rfl, ?_⟩ | refine ⟨_, rfl, ?_⟩ | refine iteP_true rfl ?_ | refine iteP_false rfl ?_ | refine iteP_true ‹_› ?_ | refine iteP_false ‹_› ?_ | refine andK ?_ | refine andA ?_ | refine andT ?_); conv => whnf) | (refine iteP_intro (fun hb => ?_) (fun hb => ?_) <;> (conv => whnf)))
    rfl
set_option maxHeartbeats 4000000 in
set_option maxRecDepth 100000 in
theorem l08Image_ret (im : List (List Nat)) (w : List Nat) (hw : ∀ c ∈ w, c < im.length) (hl : w.length ≤ 2 ^ 20) (hi : ∀ v ∈ im, v.length ≤ 24) : Ret Tryd.prog G0 78 [⟨.ro, .one (rowsI (im.map natI))⟩, ⟨.ro, .one (ints (natI w))⟩] ⟨.one (ints (natI (imgN im w))), []⟩ := by
  have hil : (im.map natI).length = im.length := List.length_map _
  have hwl := natI_length w
  unfold rowsI
  (refine ret_of_den (E := en 24 [] (fun _ => [(5, 0), (6, 0), (0, 1), (1, 1)]) (fun _ => [])) tt_ok mixed Tryd.func78 rfl rfl rfl rfl ?_; refine ⟨by simp, ?_⟩)
  repeat (first | ((first | refine opt_some (getC_rows rfl rfl (by omega)) ?_ | refine opt_some (by dsimp only; exact getC_lent rfl rfl (by omega)) ?_ | refine opt_some rfl ?_ | refine ⟨_, (by simp only [nf, nl, nm, en, ints, setC_setC, Nat.reduceAdd, Nat.reduceMul]; exact rfl), ?_⟩ | refine ⟨_, pickT rfl, ?_⟩ | refine ⟨_, rfl, ?_⟩ | refine iteP_true rfl ?_ | refine iteP_false rfl ?_ | refine iteP_true ‹_› ?_ | refine iteP_false ‹_› ?_ | refine andK ?_ | refine andA ?_ | refine andT ?_); conv => whnf))
  refine ⟨fun k vs => ∃ i : Nat, i ≤ w.length ∧ vs = [.one (ints (natI (imgN im (w.take i)))), .one (i64 i), .one (.shd (.sl false 1 (im.map natI).length ((im.map natI).map ints))), .one (.shd (ints (natI w)))] ∧ k = w.length - i, rfl, ⟨_, 0, by omega, ?_, rfl⟩, ?_⟩
  · rfl
  rintro k vs ⟨i, hi', rfl, rfl⟩
  have hb := imgN_len hi (w.take i)
  have htl : (w.take i).length ≤ 2 ^ 20 := by rw [List.length_take]; omega
  have hnl := natI_length (imgN im (w.take i))
  repeat (first | ((first | refine opt_some (getC_rows rfl rfl (by omega)) ?_ | refine opt_some (by dsimp only; exact getC_lent rfl rfl (by omega)) ?_ | refine opt_some rfl ?_ | refine ⟨_, (by simp only [nf, nl, nm, en, ints, setC_setC, Nat.reduceAdd, Nat.reduceMul]; exact rfl), ?_⟩ | refine ⟨_, pickT rfl, ?_⟩ | refine ⟨_, rfl, ?_⟩ | refine iteP_true rfl ?_ | refine iteP_false rfl ?_ | refine iteP_true ‹_› ?_ | refine iteP_false ‹_› ?_ | refine andK ?_ | refine andA ?_ | refine andT ?_); conv => whnf))
  refine iteP_intro (fun hb => ?_) (fun hb => ?_) <;> (conv => whnf)
  · have hi'' : i < w.length := by have := leT hb; omega
    have hg : (natI w)[i]'(by rw [hwl]; exact hi'') = ((w.getD i 0 : Nat) : Int) := natI_getD hi''
    have hc : w.getD i 0 < im.length := by
      rw [List.getD_eq_getElem?_getD, List.getElem?_eq_getElem hi'', Option.getD_some]
      exact hw _ (List.getElem_mem hi'')
    have hsu := imgN_succ (im := im) hi''
    generalize w.getD i 0 = a at hg hc hsu
    have hga := rows_get (im := im) (a := a) hc (by omega)
    have hil : (im.getD a []).length ≤ 24 := by
      rw [List.getD_eq_getElem?_getD, List.getElem?_eq_getElem hc, Option.getD_some]
      exact hi _ (List.getElem_mem hc)
    have hnl2 := natI_length (im.getD a [])
    repeat (first | ((first | refine opt_some (getC_rows rfl rfl (by omega)) ?_ | refine opt_some (by dsimp only; exact getC_lent rfl rfl (by omega)) ?_ | refine opt_some rfl ?_ | refine ⟨_, (by simp only [nf, nl, nm, en, ints, setC_setC, Nat.reduceAdd, Nat.reduceMul, hg, hga]; exact rfl), ?_⟩ | refine ⟨_, pickT rfl, ?_⟩ | refine ⟨_, rfl, ?_⟩ | refine iteP_true rfl ?_ | refine iteP_false rfl ?_ | refine iteP_true ‹_› ?_ | refine iteP_false ‹_› ?_ | refine andK ?_ | refine andA ?_ | refine andT ?_); conv => whnf))
    refine ⟨_, ?_, i + 1, hi'', ?_, rfl⟩
    · omega
    · rw [wrap_succ (by omega), hsu, ints_natI_append]
      rfl
  · obtain rfl : i = w.length := by have := leF hb; omega
    rw [List.take_length]
    repeat' (first | ((first | refine opt_some (getC_rows rfl rfl (by omega)) ?_ | refine opt_some (by dsimp only; exact getC_lent rfl rfl (by omega)) ?_ | refine opt_some rfl ?_ | refine ⟨_, (by simp only [nf, nl, nm, en, ints, setC_setC, Nat.reduceAdd, Nat.reduceMul]; exact rfl), ?_⟩ | refine ⟨_, pickT rfl, ?_⟩ | refine ⟨_, rfl, ?_⟩ | refine iteP_true rfl ?_ | refine iteP_false rfl ?_ | refine iteP_true ‹_› ?_ | refine iteP_false ‹_› ?_ | refine andK ?_ | refine andA ?_ | refine andT ?_); conv => whnf) | (refine iteP_intro (fun hb => ?_) (fun hb => ?_) <;> (conv => whnf)))
    rfl
theorem morphC_ok {n : Int} {ds : List Int} {m : Int} {es : List Int} {rs : List (List Int)} {ok : Bool} (h : morphC n ds m es rs ok = 0) : alphaOk n ds = true ∧ alphaOk m es = true ∧ mapOk n m rs = true ∧ ok = true ∧ respN (ds.map Int.toNat) (es.map Int.toNat) (rs.map (·.map Int.toNat)) = true := by
  unfold morphC at h
  split at h
  · rename_i h1
    split at h
    · rename_i h2
      split at h
      · rename_i h3
        rw [Bool.and_eq_true] at h1 h2
        exact ⟨h1.1, h1.2, h2.1, h2.2, h3⟩
      · cases h
    · cases h
  · cases h
/-- What a letter map that respects alphabets is made of. -/
theorem morph_ok {n : Int} {ds : List Int} {m : Int} {es : List Int} {rs : List (List Int)} {ok : Bool} (h : morphC n ds m es rs ok = 0) : ∃ (ms ks : List Nat) (im : List (List Nat)), ds.map Int.toNat = ms ∧ es.map Int.toNat = ks ∧ rs.map (·.map Int.toNat) = im ∧
    n = ms.length ∧ ds = natI ms ∧ ms.length ≤ 8 ∧ Alpha ms ∧ m = ks.length ∧ es = natI ks ∧ ks.length ≤ 8 ∧ Alpha ks ∧ rs = im.map natI ∧ im.length = ms.length ∧ Wds ks im ∧ ok = true := by
  obtain ⟨h1, h2, h3, h4, -⟩ := morphC_ok h
  obtain ⟨ms, e1, rfl, rfl, hl1, hA⟩ := alpha_ok h1
  obtain ⟨ks, e2, rfl, rfl, hl2, hB⟩ := alpha_ok h2
  obtain ⟨im, e3, rfl, hi, hws⟩ := map_ok h3
  exact ⟨ms, ks, im, e1, e2, e3, rfl, rfl, hl1, hA, rfl, rfl, hl2, hB, rfl, hi, hws, h4⟩
set_option maxHeartbeats 4000000 in
set_option maxRecDepth 100000 in
theorem checkMor_ret (n m : Int) (ds es : List Int) (rs : List (List Int)) (w v : List Int) (hd : ds.length < 2 ^ 62) (he : es.length < 2 ^ 62) (hw : rs.length < 2 ^ 62) (hx : ∀ r ∈ rs, r.length < 2 ^ 62) (hwl : w.length < 2 ^ 62) (hvl : v.length < 2 ^ 62) : Ret Tryd.prog G0 79 [⟨.ro, .agg [i64 n, ints ds]⟩, ⟨.ro, .agg [i64 m, ints es]⟩, ⟨.ro, .one (rowsI rs)⟩, ⟨.ro, .one (ints w)⟩, ⟨.ro, .one (ints v)⟩] ⟨.one (i64 (morphC n ds m es rs (wordN n w && wordN m v))), []⟩ := by
  unfold rowsI
  (refine ret_of_den (E := en 44 [] (fun _ => []) (fun _ => [])) tt_ok mixed Tryd.func79 rfl rfl rfl rfl ?_; refine ⟨by simp, ?_⟩)
  repeat' (first | ((first | refine opt_some (getC_rows rfl rfl (by omega)) ?_ | refine opt_some (by dsimp only; exact getC_lent rfl rfl (by omega)) ?_ | refine opt_some rfl ?_ | refine ⟨_, (by simp only [nf, nl, nm, en, ints, setC_setC, Nat.reduceAdd, Nat.reduceMul]; exact rfl), ?_⟩ | refine ⟨_, pickT rfl, ?_⟩ | refine ⟨_, rfl, ?_⟩ | refine iteP_true rfl ?_ | refine iteP_false rfl ?_ | refine iteP_true ‹_› ?_ | refine iteP_false ‹_› ?_ | refine andK ?_ | refine andA ?_ | refine andT ?_); conv => whnf) | (refine iteP_intro (fun hb => ?_) (fun hb => ?_) <;> (conv => whnf)))
  (refine ⟨_, isAlpha_ret n ds hd, ?_⟩; conv => whnf)
  cases h1 : alphaOk n ds with
  | false =>
    repeat' (first | ((first | refine opt_some (getC_rows rfl rfl (by omega)) ?_ | refine opt_some (by dsimp only; exact getC_lent rfl rfl (by omega)) ?_ | refine opt_some rfl ?_ | refine ⟨_, (by simp only [nf, nl, nm, en, ints, setC_setC, Nat.reduceAdd, Nat.reduceMul]; exact rfl), ?_⟩ | refine ⟨_, pickT rfl, ?_⟩ | refine ⟨_, rfl, ?_⟩ | refine iteP_true rfl ?_ | refine iteP_false rfl ?_ | refine iteP_true ‹_› ?_ | refine iteP_false ‹_› ?_ | refine andK ?_ | refine andA ?_ | refine andT ?_); conv => whnf) | (refine iteP_intro (fun hb => ?_) (fun hb => ?_) <;> (conv => whnf)))
    refine endI ?_
    rw [morphC_1 (by rw [h1]; rfl)]
  | true =>
    repeat' (first | ((first | refine opt_some (getC_rows rfl rfl (by omega)) ?_ | refine opt_some (by dsimp only; exact getC_lent rfl rfl (by omega)) ?_ | refine opt_some rfl ?_ | refine ⟨_, (by simp only [nf, nl, nm, en, ints, setC_setC, Nat.reduceAdd, Nat.reduceMul]; exact rfl), ?_⟩ | refine ⟨_, pickT rfl, ?_⟩ | refine ⟨_, rfl, ?_⟩ | refine iteP_true rfl ?_ | refine iteP_false rfl ?_ | refine iteP_true ‹_› ?_ | refine iteP_false ‹_› ?_ | refine andK ?_ | refine andA ?_ | refine andT ?_); conv => whnf) | (refine iteP_intro (fun hb => ?_) (fun hb => ?_) <;> (conv => whnf)))
    (refine ⟨_, isAlpha_ret m es he, ?_⟩; conv => whnf)
    cases h2 : alphaOk m es with
    | false =>
      repeat' (first | ((first | refine opt_some (getC_rows rfl rfl (by omega)) ?_ | refine opt_some (by dsimp only; exact getC_lent rfl rfl (by omega)) ?_ | refine opt_some rfl ?_ | refine ⟨_, (by simp only [nf, nl, nm, en, ints, setC_setC, Nat.reduceAdd, Nat.reduceMul]; exact rfl), ?_⟩ | refine ⟨_, pickT rfl, ?_⟩ | refine ⟨_, rfl, ?_⟩ | refine iteP_true rfl ?_ | refine iteP_false rfl ?_ | refine iteP_true ‹_› ?_ | refine iteP_false ‹_› ?_ | refine andK ?_ | refine andA ?_ | refine andT ?_); conv => whnf) | (refine iteP_intro (fun hb => ?_) (fun hb => ?_) <;> (conv => whnf)))
      refine endI ?_
      rw [morphC_1 (by rw [h1, h2]; rfl)]
    | true =>
      have hm := alphaOk_n h2
      have hn := alphaOk_n h1
      have hg := goodIm_ret n m ds es rs (by omega) (by omega) hw hx
      unfold rowsI at hg
      repeat' (first | ((first | refine opt_some (getC_rows rfl rfl (by omega)) ?_ | refine opt_some (by dsimp only; exact getC_lent rfl rfl (by omega)) ?_ | refine opt_some rfl ?_ | refine ⟨_, (by simp only [nf, nl, nm, en, ints, setC_setC, Nat.reduceAdd, Nat.reduceMul]; exact rfl), ?_⟩ | refine ⟨_, pickT rfl, ?_⟩ | refine ⟨_, rfl, ?_⟩ | refine iteP_true rfl ?_ | refine iteP_false rfl ?_ | refine iteP_true ‹_› ?_ | refine iteP_false ‹_› ?_ | refine andK ?_ | refine andA ?_ | refine andT ?_); conv => whnf) | (refine iteP_intro (fun hb => ?_) (fun hb => ?_) <;> (conv => whnf)))
      (refine ⟨_, hg, ?_⟩; conv => whnf)
      cases h3 : mapOk n m rs with
      | false =>
        repeat' (first | ((first | refine opt_some (getC_rows rfl rfl (by omega)) ?_ | refine opt_some (by dsimp only; exact getC_lent rfl rfl (by omega)) ?_ | refine opt_some rfl ?_ | refine ⟨_, (by simp only [nf, nl, nm, en, ints, setC_setC, Nat.reduceAdd, Nat.reduceMul]; exact rfl), ?_⟩ | refine ⟨_, pickT rfl, ?_⟩ | refine ⟨_, rfl, ?_⟩ | refine iteP_true rfl ?_ | refine iteP_false rfl ?_ | refine iteP_true ‹_› ?_ | refine iteP_false ‹_› ?_ | refine andK ?_ | refine andA ?_ | refine andT ?_); conv => whnf) | (refine iteP_intro (fun hb => ?_) (fun hb => ?_) <;> (conv => whnf)))
        refine endI ?_
        rw [morphC_2 h1 h2 (by rw [h3]; rfl)]
      | true =>
        repeat' (first | ((first | refine opt_some (getC_rows rfl rfl (by omega)) ?_ | refine opt_some (by dsimp only; exact getC_lent rfl rfl (by omega)) ?_ | refine opt_some rfl ?_ | refine ⟨_, (by simp only [nf, nl, nm, en, ints, setC_setC, Nat.reduceAdd, Nat.reduceMul]; exact rfl), ?_⟩ | refine ⟨_, pickT rfl, ?_⟩ | refine ⟨_, rfl, ?_⟩ | refine iteP_true rfl ?_ | refine iteP_false rfl ?_ | refine iteP_true ‹_› ?_ | refine iteP_false ‹_› ?_ | refine andK ?_ | refine andA ?_ | refine andT ?_); conv => whnf) | (refine iteP_intro (fun hb => ?_) (fun hb => ?_) <;> (conv => whnf)))
        (refine ⟨_, isWord_ret n ds w hwl (by omega) (by omega), ?_⟩; conv => whnf)
        cases h4 : wordN n w with
        | false =>
          repeat' (first | ((first | refine opt_some (getC_rows rfl rfl (by omega)) ?_ | refine opt_some (by dsimp only; exact getC_lent rfl rfl (by omega)) ?_ | refine opt_some rfl ?_ | refine ⟨_, (by simp only [nf, nl, nm, en, ints, setC_setC, Nat.reduceAdd, Nat.reduceMul]; exact rfl), ?_⟩ | refine ⟨_, pickT rfl, ?_⟩ | refine ⟨_, rfl, ?_⟩ | refine iteP_true rfl ?_ | refine iteP_false rfl ?_ | refine iteP_true ‹_› ?_ | refine iteP_false ‹_› ?_ | refine andK ?_ | refine andA ?_ | refine andT ?_); conv => whnf) | (refine iteP_intro (fun hb => ?_) (fun hb => ?_) <;> (conv => whnf)))
          refine endI ?_
          rw [morphC_2 h1 h2 (by rw [h3]; rfl)]
        | true =>
          repeat' (first | ((first | refine opt_some (getC_rows rfl rfl (by omega)) ?_ | refine opt_some (by dsimp only; exact getC_lent rfl rfl (by omega)) ?_ | refine opt_some rfl ?_ | refine ⟨_, (by simp only [nf, nl, nm, en, ints, setC_setC, Nat.reduceAdd, Nat.reduceMul]; exact rfl), ?_⟩ | refine ⟨_, pickT rfl, ?_⟩ | refine ⟨_, rfl, ?_⟩ | refine iteP_true rfl ?_ | refine iteP_false rfl ?_ | refine iteP_true ‹_› ?_ | refine iteP_false ‹_› ?_ | refine andK ?_ | refine andA ?_ | refine andT ?_); conv => whnf) | (refine iteP_intro (fun hb => ?_) (fun hb => ?_) <;> (conv => whnf)))
          (refine ⟨_, isWord_ret m es v hvl (by omega) (by omega), ?_⟩; conv => whnf)
          cases h5 : wordN m v with
          | false =>
            repeat' (first | ((first | refine opt_some (getC_rows rfl rfl (by omega)) ?_ | refine opt_some (by dsimp only; exact getC_lent rfl rfl (by omega)) ?_ | refine opt_some rfl ?_ | refine ⟨_, (by simp only [nf, nl, nm, en, ints, setC_setC, Nat.reduceAdd, Nat.reduceMul]; exact rfl), ?_⟩ | refine ⟨_, pickT rfl, ?_⟩ | refine ⟨_, rfl, ?_⟩ | refine iteP_true rfl ?_ | refine iteP_false rfl ?_ | refine iteP_true ‹_› ?_ | refine iteP_false ‹_› ?_ | refine andK ?_ | refine andA ?_ | refine andT ?_); conv => whnf) | (refine iteP_intro (fun hb => ?_) (fun hb => ?_) <;> (conv => whnf)))
            refine endI ?_
            rw [morphC_2 h1 h2 (by rw [h3]; rfl)]
          | true =>
            obtain ⟨ms, e1, rfl, rfl, hl1, hA⟩ := alpha_ok h1
            obtain ⟨ks, e2, rfl, rfl, hl2, hB⟩ := alpha_ok h2
            obtain ⟨im, e3, rfl, hi, hws⟩ := map_ok h3
            have hr := respects_ret ms ks im hA hl1 hB hl2 hi hws
            unfold rowsI at hr
            repeat' (first | ((first | refine opt_some (getC_rows rfl rfl (by omega)) ?_ | refine opt_some (by dsimp only; exact getC_lent rfl rfl (by omega)) ?_ | refine opt_some rfl ?_ | refine ⟨_, (by simp only [nf, nl, nm, en, ints, setC_setC, Nat.reduceAdd, Nat.reduceMul]; exact rfl), ?_⟩ | refine ⟨_, pickT rfl, ?_⟩ | refine ⟨_, rfl, ?_⟩ | refine iteP_true rfl ?_ | refine iteP_false rfl ?_ | refine iteP_true ‹_› ?_ | refine iteP_false ‹_› ?_ | refine andK ?_ | refine andA ?_ | refine andT ?_); conv => whnf) | (refine iteP_intro (fun hb => ?_) (fun hb => ?_) <;> (conv => whnf)))
            (refine ⟨_, hr, ?_⟩; conv => whnf)
            rw [morphC_3 h1 h2 (by rw [h3]; rfl) e1 e2 e3]
            cases respN ms ks im with
            | true =>
              repeat' (first | ((first | refine opt_some (getC_rows rfl rfl (by omega)) ?_ | refine opt_some (by dsimp only; exact getC_lent rfl rfl (by omega)) ?_ | refine opt_some rfl ?_ | refine ⟨_, (by simp only [nf, nl, nm, en, ints, setC_setC, Nat.reduceAdd, Nat.reduceMul]; exact rfl), ?_⟩ | refine ⟨_, pickT rfl, ?_⟩ | refine ⟨_, rfl, ?_⟩ | refine iteP_true rfl ?_ | refine iteP_false rfl ?_ | refine iteP_true ‹_› ?_ | refine iteP_false ‹_› ?_ | refine andK ?_ | refine andA ?_ | refine andT ?_); conv => whnf) | (refine iteP_intro (fun hb => ?_) (fun hb => ?_) <;> (conv => whnf)))
              rfl
            | false =>
              repeat' (first | ((first | refine opt_some (getC_rows rfl rfl (by omega)) ?_ | refine opt_some (by dsimp only; exact getC_lent rfl rfl (by omega)) ?_ | refine opt_some rfl ?_ | refine ⟨_, (by simp only [nf, nl, nm, en, ints, setC_setC, Nat.reduceAdd, Nat.reduceMul]; exact rfl), ?_⟩ | refine ⟨_, pickT rfl, ?_⟩ | refine ⟨_, rfl, ?_⟩ | refine iteP_true rfl ?_ | refine iteP_false rfl ?_ | refine iteP_true ‹_› ?_ | refine iteP_false ‹_› ?_ | refine andK ?_ | refine andA ?_ | refine andT ?_); conv => whnf) | (refine iteP_intro (fun hb => ?_) (fun hb => ?_) <;> (conv => whnf)))
              rfl
/-- What ImageOf answers. -/
def imgR (n : Int) (ds : List Int) (m : Int) (es : List Int) (rs : List (List Int)) (xs : List Int) : List Nat × Int :=
  if morphC n ds m es rs (wordN n xs) = 0 then
    (if 24 < (imgN (rs.map (·.map Int.toNat)) (xs.map Int.toNat)).length then ([], 3) else (nform (es.map Int.toNat) (imgN (rs.map (·.map Int.toNat)) (xs.map Int.toNat)), 0))
  else ([], morphC n ds m es rs (wordN n xs))
theorem imgR_bad {n : Int} {ds : List Int} {m : Int} {es : List Int} {rs : List (List Int)} {xs : List Int} (h : morphC n ds m es rs (wordN n xs) ≠ 0) : imgR n ds m es rs xs = ([], morphC n ds m es rs (wordN n xs)) := by
  unfold imgR
  rw [if_neg h]
theorem imgR_ok {n : Int} {ds : List Int} {m : Int} {es : List Int} {rs : List (List Int)} {xs : List Int} {ks w : List Nat} {im : List (List Nat)} (h : morphC n ds m es rs (wordN n xs) = 0) (e2 : es.map Int.toNat = ks) (e3 : rs.map (·.map Int.toNat) = im) (e4 : xs.map Int.toNat = w) :
    imgR n ds m es rs xs = if 24 < (imgN im w).length then ([], 3) else (nform ks (imgN im w), 0) := by
  unfold imgR
  rw [if_pos h, e2, e3, e4]
theorem imgR_len (n : Int) (ds : List Int) (m : Int) (es : List Int) (rs : List (List Int)) (xs : List Int) : (natI (imgR n ds m es rs xs).1).length ≤ 1000 := by
  rw [natI_length]
  by_cases h : morphC n ds m es rs (wordN n xs) = 0
  · obtain ⟨ms, ks, im, e1, e2, e3, rfl, rfl, hl1, hA, rfl, rfl, hl2, hB, rfl, hi, hws, hok⟩ := morph_ok h
    rw [imgR_ok h e2 e3 rfl]
    split
    · simp
    · dsimp only
      rw [nform_length hB (imgN_wd hws _)]
      omega
  · rw [imgR_bad h]; simp
theorem imgR_le (n : Int) (ds : List Int) (m : Int) (es : List Int) (rs : List (List Int)) (xs : List Int) : (imgR n ds m es rs xs).2 ≠ 0 → OLe nilS (ints (natI (imgR n ds m es rs xs).1)) := fun h => by
  by_cases hc : morphC n ds m es rs (wordN n xs) = 0
  · rw [imgR_ok hc rfl rfl rfl] at h ⊢
    split
    · exact .nil _ _
    · rename_i hh
      rw [if_neg hh] at h
      exact absurd rfl h
  · rw [imgR_bad hc]
    exact .nil _ _
theorem wd_lt_len {ms w : List Nat} {im : List (List Nat)} (hi : im.length = ms.length) (hw : ∀ c ∈ w, (c : Int) < (ms.length : Int)) : ∀ c ∈ w, c < im.length := fun c hc => by have := hw c hc; omega
set_option maxHeartbeats 4000000 in
set_option maxRecDepth 100000 in
theorem imageOfI_ret (n m : Int) (ds es : List Int) (rs : List (List Int)) (xs : List Int) (hd : ds.length < 2 ^ 62) (he : es.length < 2 ^ 62) (hw : rs.length < 2 ^ 62) (hx : ∀ r ∈ rs, r.length < 2 ^ 62) (hxs : xs.length < 2 ^ 62) : Ret Tryd.prog G0 25 [⟨.ro, .agg [i64 n, ints ds]⟩, ⟨.ro, .agg [i64 m, ints es]⟩, ⟨.ro, .one (rowsI rs)⟩, ⟨.ro, .one (ints xs)⟩] ⟨.tup [(false, [ints (natI (imgR n ds m es rs xs).1)]), (false, [i64 (imgR n ds m es rs xs).2])], []⟩ := by
  refine Ret.nz ?_ (imgR_le n ds m es rs xs)
  have hc := checkMor_ret n m ds es rs xs [] hd he hw hx hxs (by simp)
  rw [show wordN m [] = true from rfl, Bool.and_true] at hc
  unfold rowsI at hc ⊢
  by_cases h : morphC n ds m es rs (wordN n xs) = 0
  · obtain ⟨ms, ks, im, e1, e2, e3, rfl, rfl, hl1, hA, rfl, rfl, hl2, hB, rfl, hi, hws, hok⟩ := morph_ok h
    obtain ⟨w, e4, rfl, hwl, hwd⟩ := word_nat hok
    have hr := imgR_ok h e2 e3 e4
    have hwm := wd_lt_len hi hwd
    have hil := imgN_len (fun v hv => (hws v hv).1) w
    have hI := image_ret im w hwm (by omega) (fun v hv => (hws v hv).1)
    have hN := limited_ret ks (imgN im w) hB (by omega) (imgN_wd hws w) (by omega)
    have hti := ties_ret ks.length (natI ks)
    unfold rowsI at hI
    rw [h] at hc
    rw [hr]
    (refine ret_of_den (E := en 27 [] (fun _ => []) (fun _ => [])) tt_ok mixed Tryd.func25 rfl rfl rfl rfl ?_; refine ⟨by simp, ?_⟩)
    repeat' (first | ((first | refine opt_some (getC_rows rfl rfl (by omega)) ?_ | refine opt_some (by dsimp only; exact getC_lent rfl rfl (by omega)) ?_ | refine opt_some rfl ?_ | refine ⟨_, (by simp only [nf, nl, nm, en, ints, setC_setC, Nat.reduceAdd, Nat.reduceMul]; exact rfl), ?_⟩ | refine ⟨_, pickT rfl, ?_⟩ | refine ⟨_, rfl, ?_⟩ | refine iteP_true rfl ?_ | refine iteP_false rfl ?_ | refine iteP_true ‹_› ?_ | refine iteP_false ‹_› ?_ | refine andK ?_ | refine andA ?_ | refine andT ?_); conv => whnf) | (refine iteP_intro (fun hb => ?_) (fun hb => ?_) <;> (conv => whnf)))
    (refine ⟨_, hc.args (.same _ (.same _ (.same _ (.same _ (.ro (.nil _ _) .nil))))), ?_⟩; conv => whnf)
    repeat' (first | ((first | refine opt_some (getC_rows rfl rfl (by omega)) ?_ | refine opt_some (by dsimp only; exact getC_lent rfl rfl (by omega)) ?_ | refine opt_some rfl ?_ | refine ⟨_, (by simp only [nf, nl, nm, en, ints, setC_setC, Nat.reduceAdd, Nat.reduceMul]; exact rfl), ?_⟩ | refine ⟨_, pickT rfl, ?_⟩ | refine ⟨_, rfl, ?_⟩ | refine iteP_true rfl ?_ | refine iteP_false rfl ?_ | refine iteP_true ‹_› ?_ | refine iteP_false ‹_› ?_ | refine andK ?_ | refine andA ?_ | refine andT ?_); conv => whnf) | (refine iteP_intro (fun hb => ?_) (fun hb => ?_) <;> (conv => whnf)))
    (refine ⟨_, hti, ?_⟩; conv => whnf)
    repeat' (first | ((first | refine opt_some (getC_rows rfl rfl (by omega)) ?_ | refine opt_some (by dsimp only; exact getC_lent rfl rfl (by omega)) ?_ | refine opt_some rfl ?_ | refine ⟨_, (by simp only [nf, nl, nm, en, ints, setC_setC, Nat.reduceAdd, Nat.reduceMul]; exact rfl), ?_⟩ | refine ⟨_, pickT rfl, ?_⟩ | refine ⟨_, rfl, ?_⟩ | refine iteP_true rfl ?_ | refine iteP_false rfl ?_ | refine iteP_true ‹_› ?_ | refine iteP_false ‹_› ?_ | refine andK ?_ | refine andA ?_ | refine andT ?_); conv => whnf) | (refine iteP_intro (fun hb => ?_) (fun hb => ?_) <;> (conv => whnf)))
    (refine ⟨_, hI, ?_⟩; conv => whnf)
    repeat' (first | ((first | refine opt_some (getC_rows rfl rfl (by omega)) ?_ | refine opt_some (by dsimp only; exact getC_lent rfl rfl (by omega)) ?_ | refine opt_some rfl ?_ | refine ⟨_, (by simp only [nf, nl, nm, en, ints, setC_setC, Nat.reduceAdd, Nat.reduceMul]; exact rfl), ?_⟩ | refine ⟨_, pickT rfl, ?_⟩ | refine ⟨_, rfl, ?_⟩ | refine iteP_true rfl ?_ | refine iteP_false rfl ?_ | refine iteP_true ‹_› ?_ | refine iteP_false ‹_› ?_ | refine andK ?_ | refine andA ?_ | refine andT ?_); conv => whnf) | (refine iteP_intro (fun hb => ?_) (fun hb => ?_) <;> (conv => whnf)))
    (refine ⟨_, hN, ?_⟩; conv => whnf)
    by_cases hq : 24 < (imgN im w).length
    · rw [if_pos hq, if_pos hq, if_pos hq]
      repeat' (first | ((first | refine opt_some (getC_rows rfl rfl (by omega)) ?_ | refine opt_some (by dsimp only; exact getC_lent rfl rfl (by omega)) ?_ | refine opt_some rfl ?_ | refine ⟨_, (by simp only [nf, nl, nm, en, ints, setC_setC, Nat.reduceAdd, Nat.reduceMul]; exact rfl), ?_⟩ | refine ⟨_, pickT rfl, ?_⟩ | refine ⟨_, rfl, ?_⟩ | refine iteP_true rfl ?_ | refine iteP_false rfl ?_ | refine iteP_true ‹_› ?_ | refine iteP_false ‹_› ?_ | refine andK ?_ | refine andA ?_ | refine andT ?_); conv => whnf) | (refine iteP_intro (fun hb => ?_) (fun hb => ?_) <;> (conv => whnf)))
      rfl
    · rw [if_neg hq, if_neg hq, if_neg hq]
      repeat' (first | ((first | refine opt_some (getC_rows rfl rfl (by omega)) ?_ | refine opt_some (by dsimp only; exact getC_lent rfl rfl (by omega)) ?_ | refine opt_some rfl ?_ | refine ⟨_, (by simp only [nf, nl, nm, en, ints, setC_setC, Nat.reduceAdd, Nat.reduceMul]; exact rfl), ?_⟩ | refine ⟨_, pickT rfl, ?_⟩ | refine ⟨_, rfl, ?_⟩ | refine iteP_true rfl ?_ | refine iteP_false rfl ?_ | refine iteP_true ‹_› ?_ | refine iteP_false ‹_› ?_ | refine andK ?_ | refine andA ?_ | refine andT ?_); conv => whnf) | (refine iteP_intro (fun hb => ?_) (fun hb => ?_) <;> (conv => whnf)))
      rfl
  · rw [imgR_bad h]
    generalize morphC n ds m es rs (wordN n xs) = c at hc h
    have hcb : (c != 0) = true := by simpa using h
    (refine ret_of_den (E := en 27 [] (fun _ => []) (fun _ => [])) tt_ok mixed Tryd.func25 rfl rfl rfl rfl ?_; refine ⟨by simp, ?_⟩)
    repeat' (first | ((first | refine opt_some (getC_rows rfl rfl (by omega)) ?_ | refine opt_some (by dsimp only; exact getC_lent rfl rfl (by omega)) ?_ | refine opt_some rfl ?_ | refine ⟨_, (by simp only [nf, nl, nm, en, ints, setC_setC, Nat.reduceAdd, Nat.reduceMul]; exact rfl), ?_⟩ | refine ⟨_, pickT rfl, ?_⟩ | refine ⟨_, rfl, ?_⟩ | refine iteP_true rfl ?_ | refine iteP_false rfl ?_ | refine iteP_true ‹_› ?_ | refine iteP_false ‹_› ?_ | refine andK ?_ | refine andA ?_ | refine andT ?_); conv => whnf) | (refine iteP_intro (fun hb => ?_) (fun hb => ?_) <;> (conv => whnf)))
    (refine ⟨_, hc.args (.same _ (.same _ (.same _ (.same _ (.ro (.nil _ _) .nil))))), ?_⟩; conv => whnf)
    repeat' (first | ((first | refine opt_some (getC_rows rfl rfl (by omega)) ?_ | refine opt_some (by dsimp only; exact getC_lent rfl rfl (by omega)) ?_ | refine opt_some rfl ?_ | refine ⟨_, (by simp only [nf, nl, nm, en, ints, setC_setC, Nat.reduceAdd, Nat.reduceMul]; exact rfl), ?_⟩ | refine ⟨_, pickT rfl, ?_⟩ | refine ⟨_, rfl, ?_⟩ | refine iteP_true rfl ?_ | refine iteP_false rfl ?_ | refine iteP_true ‹_› ?_ | refine iteP_false ‹_› ?_ | refine andK ?_ | refine andA ?_ | refine andT ?_); conv => whnf) | (refine iteP_intro (fun hb => ?_) (fun hb => ?_) <;> (conv => whnf)))
    unfold nz
    rw [if_neg h]
    rfl
end Go.Proofs.YtpopepcmfanegaaDoor
