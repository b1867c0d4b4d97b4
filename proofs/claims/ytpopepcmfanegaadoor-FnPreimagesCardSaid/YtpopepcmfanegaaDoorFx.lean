import Derived.Test.YtpopepcmfanegaaDoorFw
set_option autoImplicit false
set_option linter.unusedSimpArgs false
set_option linter.unusedVariables false
namespace Go.Proofs.YtpopepcmfanegaaDoor
open Go.Den
set_option maxHeartbeats 4000000 in
set_option maxRecDepth 100000 in
theorem preOf1_ret (w : List Int) (hx : w.length < 2 ^ 62) : Ret Tryd.prog G0 112 [⟨.ro, .one (ints w)⟩] ⟨.one (.c (.bool (decide (w.length = 0)))), []⟩ := by
  (refine ret_of_den (E := en 6 [] (fun _ => []) (fun _ => [])) tt_ok mixed Tryd.func112 rfl rfl rfl rfl ?_; refine ⟨by simp, ?_⟩)
  repeat' (first | ((first | refine opt_some (getC_rows rfl rfl (by omega)) ?_ | refine opt_some (by dsimp only; exact getC_lent rfl rfl (by omega)) ?_ | refine opt_some rfl ?_ | refine ⟨_, (by simp only [nf, nl, nm, en, ints, setC_setC, Nat.reduceAdd, Nat.reduceMul]; exact rfl), ?_⟩ | refine ⟨_, pickT rfl, ?_⟩ | refine ⟨_, rfl, ?_⟩ | refine iteP_true rfl ?_ | refine iteP_false rfl ?_ | refine iteP_true ‹_› ?_ | refine iteP_false ‹_› ?_ | refine andK ?_ | refine andA ?_ | refine andT ?_); conv => whnf) | (refine iteP_intro (fun hb => ?_) (fun hb => ?_) <;> (conv => whnf)))
  refine endB ?_
  rw [Bool.eq_iff_iff]
  simp
set_option maxHeartbeats 4000000 in
set_option maxRecDepth 100000 in
theorem indexFE_ret (ws : List (List Int)) (hw : ws.length < 2 ^ 62) (hx : ∀ w ∈ ws, w.length < 2 ^ 62) : Ret Tryd.prog G0 153 [⟨.ro, .one (rowsI ws)⟩, ⟨.ro, .one (.fn (.func 112) [])⟩] ⟨.one (i64 (findI (fun w : List Int => decide (w.length = 0)) ws 0)), []⟩ := by
  unfold rowsI
  (refine ret_of_den (E := en 19 [] (fun _ => [(7, 0), (8, 0), (0, 1), (1, 1)]) (fun _ => [])) tt_ok mixed Tryd.func153 rfl rfl rfl rfl ?_; refine ⟨by simp, ?_⟩)
  repeat' (first | ((first | refine opt_some (getC_rows rfl rfl (by omega)) ?_ | refine opt_some (by dsimp only; exact getC_lent rfl rfl (by omega)) ?_ | refine opt_some rfl ?_ | refine ⟨_, (by simp only [nf, nl, nm, en, ints, setC_setC, Nat.reduceAdd, Nat.reduceMul]; exact rfl), ?_⟩ | refine ⟨_, pickT rfl, ?_⟩ | refine ⟨_, rfl, ?_⟩ | refine iteP_true rfl ?_ | refine iteP_false rfl ?_ | refine iteP_true ‹_› ?_ | refine iteP_false ‹_› ?_ | refine andK ?_ | refine andA ?_ | refine andT ?_); conv => whnf) | (refine iteP_intro (fun hb => ?_) (fun hb => ?_) <;> (conv => whnf)))
  refine ⟨fun k vs => ∃ i : Nat, i ≤ ws.length ∧ findI (fun w : List Int => decide (w.length = 0)) ws 0 = findI (fun w : List Int => decide (w.length = 0)) (ws.drop i) i ∧ vs = [.one (i64 ws.length), .one (i64 i), .one (.shd (.sl false 1 ws.length (ws.map ints))), .one (.shd (.fn (.func 112) []))] ∧ k = ws.length - i, rfl, ?_, ?_⟩
  · exact ⟨_, 0, by omega, by simp, rfl, rfl⟩
  · rintro k vs ⟨i, hi, hf, rfl, rfl⟩
    repeat (first | ((first | refine opt_some (getC_rows rfl rfl (by omega)) ?_ | refine opt_some (by dsimp only; exact getC_lent rfl rfl (by omega)) ?_ | refine opt_some rfl ?_ | refine ⟨_, (by simp only [nf, nl, nm, en, ints, setC_setC, Nat.reduceAdd, Nat.reduceMul]; exact rfl), ?_⟩ | refine ⟨_, pickT rfl, ?_⟩ | refine ⟨_, rfl, ?_⟩ | refine iteP_true rfl ?_ | refine iteP_false rfl ?_ | refine iteP_true ‹_› ?_ | refine iteP_false ‹_› ?_ | refine andK ?_ | refine andA ?_ | refine andT ?_); conv => whnf))
    refine iteP_intro (fun hb => ?_) (fun hb => ?_) <;> (conv => whnf)
    · have hi' := ltT hb
      repeat (first | ((first | refine opt_some (getC_rows rfl rfl (by omega)) ?_ | refine opt_some (by dsimp only; exact getC_lent rfl rfl (by omega)) ?_ | refine opt_some rfl ?_ | refine ⟨_, (by simp only [nf, nl, nm, en, ints, setC_setC, Nat.reduceAdd, Nat.reduceMul]; exact rfl), ?_⟩ | refine ⟨_, pickT rfl, ?_⟩ | refine ⟨_, rfl, ?_⟩ | refine iteP_true rfl ?_ | refine iteP_false rfl ?_ | refine iteP_true ‹_› ?_ | refine iteP_false ‹_› ?_ | refine andK ?_ | refine andA ?_ | refine andT ?_); conv => whnf))
      (refine ⟨_, preOf1_ret _ (hx _ (List.getElem_mem hi')), ?_⟩; conv => whnf)
      repeat' (first | ((first | refine opt_some (getC_rows rfl rfl (by omega)) ?_ | refine opt_some (by dsimp only; exact getC_lent rfl rfl (by omega)) ?_ | refine opt_some rfl ?_ | refine ⟨_, (by simp only [nf, nl, nm, en, ints, setC_setC, Nat.reduceAdd, Nat.reduceMul]; exact rfl), ?_⟩ | refine ⟨_, pickT rfl, ?_⟩ | refine ⟨_, rfl, ?_⟩ | refine iteP_true rfl ?_ | refine iteP_false rfl ?_ | refine iteP_true ‹_› ?_ | refine iteP_false ‹_› ?_ | refine andK ?_ | refine andA ?_ | refine andT ?_); conv => whnf) | (refine iteP_intro (fun hb => ?_) (fun hb => ?_) <;> (conv => whnf)))
      · refine endI ?_
        rw [hf, findI_T hi' hb]
      · refine ⟨_, ?_, i + 1, hi', ?_, by rw [wrap_succ (by omega)]; rfl, rfl⟩
        · omega
        · rw [hf, findI_F hi' hb]
    · repeat' (first | ((first | refine opt_some (getC_rows rfl rfl (by omega)) ?_ | refine opt_some (by dsimp only; exact getC_lent rfl rfl (by omega)) ?_ | refine opt_some rfl ?_ | refine ⟨_, (by simp only [nf, nl, nm, en, ints, setC_setC, Nat.reduceAdd, Nat.reduceMul]; exact rfl), ?_⟩ | refine ⟨_, pickT rfl, ?_⟩ | refine ⟨_, rfl, ?_⟩ | refine iteP_true rfl ?_ | refine iteP_false rfl ?_ | refine iteP_true ‹_› ?_ | refine iteP_false ‹_› ?_ | refine andK ?_ | refine andA ?_ | refine andT ?_); conv => whnf) | (refine iteP_intro (fun hb => ?_) (fun hb => ?_) <;> (conv => whnf)))
      obtain rfl : i = ws.length := Nat.le_antisymm hi (ltF hb)
      refine endI ?_
      rw [hf]; simp [findI]
set_option maxHeartbeats 4000000 in
set_option maxRecDepth 100000 in
theorem containsFE_ret (ws : List (List Int)) (hw : ws.length < 2 ^ 62) (hx : ∀ w ∈ ws, w.length < 2 ^ 62) : Ret Tryd.prog G0 111 [⟨.ro, .one (rowsI ws)⟩, ⟨.ro, .one (.fn (.func 112) [])⟩] ⟨.one (.c (.bool (ws.any fun w : List Int => decide (w.length = 0)))), []⟩ := by
  have hc := indexFE_ret ws hw hx
  unfold rowsI at hc ⊢
  (refine ret_of_den (E := en 9 [] (fun _ => []) (fun _ => [])) tt_ok mixed Tryd.func111 rfl rfl rfl rfl ?_; refine ⟨by simp, ?_⟩)
  repeat' (first | ((first | refine opt_some (getC_rows rfl rfl (by omega)) ?_ | refine opt_some (by dsimp only; exact getC_lent rfl rfl (by omega)) ?_ | refine opt_some rfl ?_ | refine ⟨_, (by simp only [nf, nl, nm, en, ints, setC_setC, Nat.reduceAdd, Nat.reduceMul]; exact rfl), ?_⟩ | refine ⟨_, pickT rfl, ?_⟩ | refine ⟨_, rfl, ?_⟩ | refine iteP_true rfl ?_ | refine iteP_false rfl ?_ | refine iteP_true ‹_› ?_ | refine iteP_false ‹_› ?_ | refine andK ?_ | refine andA ?_ | refine andT ?_); conv => whnf) | (refine iteP_intro (fun hb => ?_) (fun hb => ?_) <;> (conv => whnf)))
  (refine ⟨_, hc, ?_⟩; conv => whnf)
  repeat' (first | ((first | refine opt_some (getC_rows rfl rfl (by omega)) ?_ | refine opt_some (by dsimp only; exact getC_lent rfl rfl (by omega)) ?_ | refine opt_some rfl ?_ | refine ⟨_, (by simp only [nf, nl, nm, en, ints, setC_setC, Nat.reduceAdd, Nat.reduceMul]; exact rfl), ?_⟩ | refine ⟨_, pickT rfl, ?_⟩ | refine ⟨_, rfl, ?_⟩ | refine iteP_true rfl ?_ | refine iteP_false rfl ?_ | refine iteP_true ‹_› ?_ | refine iteP_false ‹_› ?_ | refine andK ?_ | refine andA ?_ | refine andT ?_); conv => whnf) | (refine iteP_intro (fun hb => ?_) (fun hb => ?_) <;> (conv => whnf)))
  exact endB (findI_nonneg _ _ _ (Int.le_refl _))
theorem any_nil_nat (im : List (List Nat)) : ((im.map natI).any fun w : List Int => decide (w.length = 0)) = im.any fun w => decide (w.length = 0) := by
  rw [List.any_map]
  congr 1
  funext w
  simp only [Function.comp, natI_length]
/-- What PreimagesOf answers. -/
def preR (n : Int) (ds : List Int) (m : Int) (es : List Int) (rs : List (List Int)) (xs : List Int) : List (List Nat) × Int :=
  if morphC n ds m es rs (wordN m xs) = 0 then
    (if (rs.map (·.map Int.toNat)).any fun w => decide (w.length = 0) then ([], 5)
      else if 1000 < (prG (ds.map Int.toNat) (es.map Int.toNat) (rs.map (·.map Int.toNat)) xs.length [] (xs.map Int.toNat) []).length then ([], 3)
      else (prG (ds.map Int.toNat) (es.map Int.toNat) (rs.map (·.map Int.toNat)) xs.length [] (xs.map Int.toNat) [], 0))
  else ([], morphC n ds m es rs (wordN m xs))
theorem preR_bad {n : Int} {ds : List Int} {m : Int} {es : List Int} {rs : List (List Int)} {xs : List Int} (h : morphC n ds m es rs (wordN m xs) ≠ 0) : preR n ds m es rs xs = ([], morphC n ds m es rs (wordN m xs)) := by
  unfold preR
  rw [if_neg h]
theorem preR_ok {n : Int} {ds : List Int} {m : Int} {es : List Int} {rs : List (List Int)} {xs : List Int} {ms ks v : List Nat} {im : List (List Nat)} (h : morphC n ds m es rs (wordN m xs) = 0) (e1 : ds.map Int.toNat = ms) (e2 : es.map Int.toNat = ks) (e3 : rs.map (·.map Int.toNat) = im) (e4 : xs.map Int.toNat = v) (e5 : xs.length = v.length) :
    preR n ds m es rs xs = if im.any fun w => decide (w.length = 0) then ([], 5) else if 1000 < (prG ms ks im v.length [] v []).length then ([], 3) else (prG ms ks im v.length [] v [], 0) := by
  unfold preR
  rw [if_pos h, e1, e2, e3, e4, e5]
theorem preR_nz {n : Int} {ds : List Int} {m : Int} {es : List Int} {rs : List (List Int)} {xs : List Int} (h : (preR n ds m es rs xs).2 ≠ 0) : (preR n ds m es rs xs).1 = [] := by
  unfold preR at h ⊢
  split
  · rename_i h1
    rw [if_pos h1] at h
    split
    · rfl
    · rename_i h2
      rw [if_neg h2] at h
      split
      · rfl
      · rename_i h3; rw [if_neg h3] at h; exact absurd rfl h
  · rfl
theorem preR_le (n : Int) (ds : List Int) (m : Int) (es : List Int) (rs : List (List Int)) (xs : List Int) : (preR n ds m es rs xs).2 ≠ 0 → OLe nilS (rowsC (preR n ds m es rs xs).1) := fun h => rows_nil (preR_nz h)
/-- What a letter map and a word of its images are made of. -/
theorem preM_ok {n : Int} {ds : List Int} {m : Int} {es : List Int} {rs : List (List Int)} {xs : List Int} (h : morphC n ds m es rs (wordN m xs) = 0) : ∃ (ms ks v : List Nat) (im : List (List Nat)), ds.map Int.toNat = ms ∧ es.map Int.toNat = ks ∧ rs.map (·.map Int.toNat) = im ∧ xs.map Int.toNat = v ∧
    n = ms.length ∧ ds = natI ms ∧ ms.length ≤ 8 ∧ Alpha ms ∧ m = ks.length ∧ es = natI ks ∧ ks.length ≤ 8 ∧ Alpha ks ∧ rs = im.map natI ∧ im.length = ms.length ∧ Wds ks im ∧ xs = natI v ∧ v.length ≤ 24 ∧ Wd ks v := by
  obtain ⟨ms, ks, im, e1, e2, e3, rfl, rfl, hl1, hA, rfl, rfl, hl2, hB, rfl, hi, hws, hok⟩ := morph_ok h
  obtain ⟨v, e4, rfl, hvl, hvd⟩ := word_nat hok
  exact ⟨ms, ks, v, im, e1, e2, e3, e4, rfl, rfl, hl1, hA, rfl, rfl, hl2, hB, rfl, hi, hws, rfl, hvl, word_wd hvd⟩
theorem preR_small (n : Int) (ds : List Int) (m : Int) (es : List Int) (rs : List (List Int)) (xs : List Int) : ((preR n ds m es rs xs).1.map natI).length ≤ 1000 ∧ tot ((preR n ds m es rs xs).1.map natI) ≤ 1000 * 24 := by
  by_cases h : morphC n ds m es rs (wordN m xs) = 0
  · obtain ⟨ms, ks, v, im, e1, e2, e3, e4, rfl, rfl, hl1, hA, rfl, rfl, hl2, hB, rfl, hi, hws, rfl, hvl, hvd⟩ := preM_ok h
    rw [preR_ok h e1 e2 e3 e4 (natI_length v)]
    split
    · exact ⟨by simp, by simp [tot]⟩
    · split
      · exact ⟨by simp, by simp [tot]⟩
      · rename_i hh
        have hlen : (List.map natI (prG ms ks im v.length [] v [])).length ≤ 1000 := by rw [List.length_map]; omega
        refine ⟨hlen, Nat.le_trans (tot_le (c := 24) fun r hr => ?_) (Nat.mul_le_mul_right 24 hlen)⟩
        obtain ⟨x, hx, rfl⟩ := List.mem_map.1 hr
        rw [natI_length]
        exact prG_mem ms ks im _ _ _ _ (by simp) (by simpa using hvl) x hx
  · rw [preR_bad h]; exact ⟨by simp, by simp [tot]⟩
theorem ne_of_any {im : List (List Nat)} (h : (im.any fun w => decide (w.length = 0)) = false) : ∀ v ∈ im, v.length ≠ 0 := fun v hv e => by
  rw [List.any_eq_false] at h
  exact h v hv (decide_eq_true e)
set_option maxHeartbeats 4000000 in
set_option maxRecDepth 100000 in
theorem preOfI_ret (n m : Int) (ds es : List Int) (rs : List (List Int)) (xs : List Int) (hd : ds.length < 2 ^ 62) (he : es.length < 2 ^ 62) (hw : rs.length < 2 ^ 62) (hx : ∀ r ∈ rs, r.length < 2 ^ 62) (hxs : xs.length < 2 ^ 62) : Ret Tryd.prog G0 48 [⟨.ro, .agg [i64 n, ints ds]⟩, ⟨.ro, .agg [i64 m, ints es]⟩, ⟨.ro, .one (rowsI rs)⟩, ⟨.ro, .one (ints xs)⟩] ⟨.tup [(false, [rowsC (preR n ds m es rs xs).1]), (false, [i64 (preR n ds m es rs xs).2])], []⟩ := by
  refine Ret.nz ?_ (preR_le n ds m es rs xs)
  have hc := checkMor_ret n m ds es rs [] xs hd he hw hx (by simp) hxs
  rw [show wordN n [] = true from rfl, Bool.true_and] at hc
  have hany := containsFE_ret rs hw hx
  unfold rowsI at hc hany ⊢
  by_cases h : morphC n ds m es rs (wordN m xs) = 0
  · obtain ⟨ms, ks, v, im, e1, e2, e3, e4, rfl, rfl, hl1, hA, rfl, rfl, hl2, hB, rfl, hi, hws, rfl, hvl, hvd⟩ := preM_ok h
    rw [preR_ok h e1 e2 e3 e4 (natI_length v)]
    rw [h] at hc
    rw [any_nil_nat] at hany
    cases ha : im.any fun w => decide (w.length = 0) with
    | true =>
      rw [ha] at hany
      (refine ret_of_den (E := en 31 [] (fun _ => []) (fun _ => [])) tt_ok mixed Tryd.func48 rfl rfl rfl rfl ?_; refine ⟨by simp, ?_⟩)
      repeat' (first | ((first | refine opt_some (getC_rows rfl rfl (by omega)) ?_ | refine opt_some (by dsimp only; exact getC_lent rfl rfl (by omega)) ?_ | refine opt_some rfl ?_ | refine ⟨_, (by simp only [nf, nl, nm, en, ints, setC_setC, Nat.reduceAdd, Nat.reduceMul]; exact rfl), ?_⟩ | refine ⟨_, pickT rfl, ?_⟩ | refine ⟨_, rfl, ?_⟩ | refine iteP_true rfl ?_ | refine iteP_false rfl ?_ | refine iteP_true ‹_› ?_ | refine iteP_false ‹_› ?_ | refine andK ?_ | refine andA ?_ | refine andT ?_); conv => whnf) | (refine iteP_intro (fun hb => ?_) (fun hb => ?_) <;> (conv => whnf)))
      (refine ⟨_, hc.args (.same _ (.same _ (.same _ (.ro (.nil _ _) (.same _ .nil))))), ?_⟩; conv => whnf)
      repeat' (first | ((first | refine opt_some (getC_rows rfl rfl (by omega)) ?_ | refine opt_some (by dsimp only; exact getC_lent rfl rfl (by omega)) ?_ | refine opt_some rfl ?_ | refine ⟨_, (by simp only [nf, nl, nm, en, ints, setC_setC, Nat.reduceAdd, Nat.reduceMul]; exact rfl), ?_⟩ | refine ⟨_, pickT rfl, ?_⟩ | refine ⟨_, rfl, ?_⟩ | refine iteP_true rfl ?_ | refine iteP_false rfl ?_ | refine iteP_true ‹_› ?_ | refine iteP_false ‹_› ?_ | refine andK ?_ | refine andA ?_ | refine andT ?_); conv => whnf) | (refine iteP_intro (fun hb => ?_) (fun hb => ?_) <;> (conv => whnf)))
      (refine ⟨_, hany, ?_⟩; conv => whnf)
      repeat' (first | ((first | refine opt_some (getC_rows rfl rfl (by omega)) ?_ | refine opt_some (by dsimp only; exact getC_lent rfl rfl (by omega)) ?_ | refine opt_some rfl ?_ | refine ⟨_, (by simp only [nf, nl, nm, en, ints, setC_setC, Nat.reduceAdd, Nat.reduceMul]; exact rfl), ?_⟩ | refine ⟨_, pickT rfl, ?_⟩ | refine ⟨_, rfl, ?_⟩ | refine iteP_true rfl ?_ | refine iteP_false rfl ?_ | refine iteP_true ‹_› ?_ | refine iteP_false ‹_› ?_ | refine andK ?_ | refine andA ?_ | refine andT ?_); conv => whnf) | (refine iteP_intro (fun hb => ?_) (fun hb => ?_) <;> (conv => whnf)))
      rfl
    | false =>
      rw [ha] at hany
      have hg := preI_ret ms ks im hA hl1 hB hl2 hi hws (ne_of_any ha) v.length [] v [] (Nat.le_refl _) (by simpa using hvl) (.nil _) hvd (by simp)
      rw [shN_nil] at hg
      have hlen := prG_len ms ks im v.length [] v [] (by simp)
      rw [if_neg (show ¬ false = true by simp)]
      generalize prG ms ks im v.length [] v [] = o at hg hlen
      unfold rowsC rowsI at hg
      unfold rowsC
      (refine ret_of_den (E := en 31 [] (fun _ => []) (fun _ => [])) tt_ok mixed Tryd.func48 rfl rfl rfl rfl ?_; refine ⟨by simp, ?_⟩)
      repeat' (first | ((first | refine opt_some (getC_rows rfl rfl (by omega)) ?_ | refine opt_some (by dsimp only; exact getC_lent rfl rfl (by omega)) ?_ | refine opt_some rfl ?_ | refine ⟨_, (by simp only [nf, nl, nm, en, ints, setC_setC, Nat.reduceAdd, Nat.reduceMul]; exact rfl), ?_⟩ | refine ⟨_, pickT rfl, ?_⟩ | refine ⟨_, rfl, ?_⟩ | refine iteP_true rfl ?_ | refine iteP_false rfl ?_ | refine iteP_true ‹_› ?_ | refine iteP_false ‹_› ?_ | refine andK ?_ | refine andA ?_ | refine andT ?_); conv => whnf) | (refine iteP_intro (fun hb => ?_) (fun hb => ?_) <;> (conv => whnf)))
      (refine ⟨_, hc.args (.same _ (.same _ (.same _ (.ro (.nil _ _) (.same _ .nil))))), ?_⟩; conv => whnf)
      repeat' (first | ((first | refine opt_some (getC_rows rfl rfl (by omega)) ?_ | refine opt_some (by dsimp only; exact getC_lent rfl rfl (by omega)) ?_ | refine opt_some rfl ?_ | refine ⟨_, (by simp only [nf, nl, nm, en, ints, setC_setC, Nat.reduceAdd, Nat.reduceMul]; exact rfl), ?_⟩ | refine ⟨_, pickT rfl, ?_⟩ | refine ⟨_, rfl, ?_⟩ | refine iteP_true rfl ?_ | refine iteP_false rfl ?_ | refine iteP_true ‹_› ?_ | refine iteP_false ‹_› ?_ | refine andK ?_ | refine andA ?_ | refine andT ?_); conv => whnf) | (refine iteP_intro (fun hb => ?_) (fun hb => ?_) <;> (conv => whnf)))
      (refine ⟨_, hany, ?_⟩; conv => whnf)
      repeat' (first | ((first | refine opt_some (getC_rows rfl rfl (by omega)) ?_ | refine opt_some (by dsimp only; exact getC_lent rfl rfl (by omega)) ?_ | refine opt_some rfl ?_ | refine ⟨_, (by simp only [nf, nl, nm, en, ints, setC_setC, Nat.reduceAdd, Nat.reduceMul]; exact rfl), ?_⟩ | refine ⟨_, pickT rfl, ?_⟩ | refine ⟨_, rfl, ?_⟩ | refine iteP_true rfl ?_ | refine iteP_false rfl ?_ | refine iteP_true ‹_› ?_ | refine iteP_false ‹_› ?_ | refine andK ?_ | refine andA ?_ | refine andT ?_); conv => whnf) | (refine iteP_intro (fun hb => ?_) (fun hb => ?_) <;> (conv => whnf)))
      (refine ⟨_, hg.args (.same _ (.same _ (.same _ (.ro (.nil _ _) (.same _ (.same _ (.ow (by simp) (.one (.nil _ _)) .nil))))))), ?_⟩; conv => whnf)
      repeat' (first | ((first | refine opt_some (getC_rows rfl rfl (by omega)) ?_ | refine opt_some (by dsimp only; exact getC_lent rfl rfl (by omega)) ?_ | refine opt_some rfl ?_ | refine ⟨_, (by simp only [nf, nl, nm, en, ints, setC_setC, Nat.reduceAdd, Nat.reduceMul]; exact rfl), ?_⟩ | refine ⟨_, pickT rfl, ?_⟩ | refine ⟨_, rfl, ?_⟩ | refine iteP_true rfl ?_ | refine iteP_false rfl ?_ | refine iteP_true ‹_› ?_ | refine iteP_false ‹_› ?_ | refine andK ?_ | refine andA ?_ | refine andT ?_); conv => whnf) | (refine iteP_intro (fun hb => ?_) (fun hb => ?_) <;> (conv => whnf)))
      · rw [if_pos (by have := leT hb; omega)]
        rfl
      · rw [if_neg (by have := leF hb; omega)]
        rfl
  · rw [preR_bad h]
    generalize morphC n ds m es rs (wordN m xs) = c at hc h
    have hcb : (c != 0) = true := by simpa using h
    (refine ret_of_den (E := en 31 [] (fun _ => []) (fun _ => [])) tt_ok mixed Tryd.func48 rfl rfl rfl rfl ?_; refine ⟨by simp, ?_⟩)
    repeat' (first | ((first | refine opt_some (getC_rows rfl rfl (by omega)) ?_ | refine opt_some (by dsimp only; exact getC_lent rfl rfl (by omega)) ?_ | refine opt_some rfl ?_ | refine ⟨_, (by simp only [nf, nl, nm, en, ints, setC_setC, Nat.reduceAdd, Nat.reduceMul]; exact rfl), ?_⟩ | refine ⟨_, pickT rfl, ?_⟩ | refine ⟨_, rfl, ?_⟩ | refine iteP_true rfl ?_ | refine iteP_false rfl ?_ | refine iteP_true ‹_› ?_ | refine iteP_false ‹_› ?_ | refine andK ?_ | refine andA ?_ | refine andT ?_); conv => whnf) | (refine iteP_intro (fun hb => ?_) (fun hb => ?_) <;> (conv => whnf)))
    (refine ⟨_, hc.args (.same _ (.same _ (.same _ (.ro (.nil _ _) (.same _ .nil))))), ?_⟩; conv => whnf)
    repeat' (first | ((first | refine opt_some (getC_rows rfl rfl (by omega)) ?_ | refine opt_some (by dsimp only; exact getC_lent rfl rfl (by omega)) ?_ | refine opt_some rfl ?_ | refine ⟨_, (by simp only [nf, nl, nm, en, ints, setC_setC, Nat.reduceAdd, Nat.reduceMul]; exact rfl), ?_⟩ | refine ⟨_, pickT rfl, ?_⟩ | refine ⟨_, rfl, ?_⟩ | refine iteP_true rfl ?_ | refine iteP_false rfl ?_ | refine iteP_true ‹_› ?_ | refine iteP_false ‹_› ?_ | refine andK ?_ | refine andA ?_ | refine andT ?_); conv => whnf) | (refine iteP_intro (fun hb => ?_) (fun hb => ?_) <;> (conv => whnf)))
    unfold nz
    rw [if_neg h]
    rfl
set_option maxHeartbeats 4000000 in
set_option maxRecDepth 100000 in
theorem preOfS_ret (n m : Int) (ds es : List Int) (rs : List (List Int)) (xs : List Int) (hd : ds.length < 2 ^ 62) (he : es.length < 2 ^ 62) (hw : rs.length < 2 ^ 62) (hx : ∀ r ∈ rs, r.length < 2 ^ 62) (hxs : xs.length < 2 ^ 62) : Ret Tryd.prog G0 49 [⟨.ro, .agg [i64 n, ints ds]⟩, ⟨.ro, .agg [i64 m, ints es]⟩, ⟨.ro, .one (rowsI rs)⟩, ⟨.ro, .one (ints xs)⟩] ⟨.tup [(false, [rowsC (preR n ds m es rs xs).1]), (false, [i64 (preR n ds m es rs xs).2])], []⟩ := by
  refine Ret.nz ?_ (preR_le n ds m es rs xs)
  unfold rowsI
  (refine ret_of_den (E := en 60 [] (fun _ => [(4, 0), (5, 0), (10, 0), (2, 1), (3, 1)]) (fun _ => [])) tt_ok mixed Tryd.func49 rfl rfl rfl rfl ?_; refine ⟨by simp, ?_⟩)
  repeat' (first | ((first | refine opt_some (getC_rows rfl rfl (by omega)) ?_ | refine opt_some (by dsimp only; exact getC_lent rfl rfl (by omega)) ?_ | refine opt_some rfl ?_ | refine ⟨_, (by simp only [nf, nl, nm, en, ints, setC_setC, Nat.reduceAdd, Nat.reduceMul]; exact rfl), ?_⟩ | refine ⟨_, pickT rfl, ?_⟩ | refine ⟨_, rfl, ?_⟩ | refine iteP_true rfl ?_ | refine iteP_false rfl ?_ | refine iteP_true ‹_› ?_ | refine iteP_false ‹_› ?_ | refine andK ?_ | refine andA ?_ | refine andT ?_); conv => whnf) | (refine iteP_intro (fun hb => ?_) (fun hb => ?_) <;> (conv => whnf)))
  (refine ⟨_, l02Is_ret n ds hd, ?_⟩; conv => whnf)
  cases h1 : alphaOk n ds with
  | false =>
    have h : morphC n ds m es rs (wordN m xs) = 1 := morphC_1 (by rw [h1]; rfl)
    rw [preR_bad (by rw [h]; simp), h]
    repeat' (first | ((first | refine opt_some (getC_rows rfl rfl (by omega)) ?_ | refine opt_some (by dsimp only; exact getC_lent rfl rfl (by omega)) ?_ | refine opt_some rfl ?_ | refine ⟨_, (by simp only [nf, nl, nm, en, ints, setC_setC, Nat.reduceAdd, Nat.reduceMul]; exact rfl), ?_⟩ | refine ⟨_, pickT rfl, ?_⟩ | refine ⟨_, rfl, ?_⟩ | refine iteP_true rfl ?_ | refine iteP_false rfl ?_ | refine iteP_true ‹_› ?_ | refine iteP_false ‹_› ?_ | refine andK ?_ | refine andA ?_ | refine andT ?_); conv => whnf) | (refine iteP_intro (fun hb => ?_) (fun hb => ?_) <;> (conv => whnf)))
    rfl
  | true =>
    repeat' (first | ((first | refine opt_some (getC_rows rfl rfl (by omega)) ?_ | refine opt_some (by dsimp only; exact getC_lent rfl rfl (by omega)) ?_ | refine opt_some rfl ?_ | refine ⟨_, (by simp only [nf, nl, nm, en, ints, setC_setC, Nat.reduceAdd, Nat.reduceMul]; exact rfl), ?_⟩ | refine ⟨_, pickT rfl, ?_⟩ | refine ⟨_, rfl, ?_⟩ | refine iteP_true rfl ?_ | refine iteP_false rfl ?_ | refine iteP_true ‹_› ?_ | refine iteP_false ‹_› ?_ | refine andK ?_ | refine andA ?_ | refine andT ?_); conv => whnf) | (refine iteP_intro (fun hb => ?_) (fun hb => ?_) <;> (conv => whnf)))
    (refine ⟨_, l02Is_ret m es he, ?_⟩; conv => whnf)
    cases h2 : alphaOk m es with
    | false =>
      have h : morphC n ds m es rs (wordN m xs) = 1 := morphC_1 (by rw [h1, h2]; rfl)
      rw [preR_bad (by rw [h]; simp), h]
      repeat' (first | ((first | refine opt_some (getC_rows rfl rfl (by omega)) ?_ | refine opt_some (by dsimp only; exact getC_lent rfl rfl (by omega)) ?_ | refine opt_some rfl ?_ | refine ⟨_, (by simp only [nf, nl, nm, en, ints, setC_setC, Nat.reduceAdd, Nat.reduceMul]; exact rfl), ?_⟩ | refine ⟨_, pickT rfl, ?_⟩ | refine ⟨_, rfl, ?_⟩ | refine iteP_true rfl ?_ | refine iteP_false rfl ?_ | refine iteP_true ‹_› ?_ | refine iteP_false ‹_› ?_ | refine andK ?_ | refine andA ?_ | refine andT ?_); conv => whnf) | (refine iteP_intro (fun hb => ?_) (fun hb => ?_) <;> (conv => whnf)))
      rfl
    | true =>
      have hm := alphaOk_n h2
      have hn := alphaOk_n h1
      have hg := l08Map_ret n m ds es rs (by omega) (by omega) hw hx
      unfold rowsI at hg
      repeat' (first | ((first | refine opt_some (getC_rows rfl rfl (by omega)) ?_ | refine opt_some (by dsimp only; exact getC_lent rfl rfl (by omega)) ?_ | refine opt_some rfl ?_ | refine ⟨_, (by simp only [nf, nl, nm, en, ints, setC_setC, Nat.reduceAdd, Nat.reduceMul]; exact rfl), ?_⟩ | refine ⟨_, pickT rfl, ?_⟩ | refine ⟨_, rfl, ?_⟩ | refine iteP_true rfl ?_ | refine iteP_false rfl ?_ | refine iteP_true ‹_› ?_ | refine iteP_false ‹_› ?_ | refine andK ?_ | refine andA ?_ | refine andT ?_); conv => whnf) | (refine iteP_intro (fun hb => ?_) (fun hb => ?_) <;> (conv => whnf)))
      (refine ⟨_, hg, ?_⟩; conv => whnf)
      cases h3 : mapOk n m rs with
      | false =>
        have h : morphC n ds m es rs (wordN m xs) = 2 := morphC_2 h1 h2 (by rw [h3]; rfl)
        rw [preR_bad (by rw [h]; simp), h]
        repeat' (first | ((first | refine opt_some (getC_rows rfl rfl (by omega)) ?_ | refine opt_some (by dsimp only; exact getC_lent rfl rfl (by omega)) ?_ | refine opt_some rfl ?_ | refine ⟨_, (by simp only [nf, nl, nm, en, ints, setC_setC, Nat.reduceAdd, Nat.reduceMul]; exact rfl), ?_⟩ | refine ⟨_, pickT rfl, ?_⟩ | refine ⟨_, rfl, ?_⟩ | refine iteP_true rfl ?_ | refine iteP_false rfl ?_ | refine iteP_true ‹_› ?_ | refine iteP_false ‹_› ?_ | refine andK ?_ | refine andA ?_ | refine andT ?_); conv => whnf) | (refine iteP_intro (fun hb => ?_) (fun hb => ?_) <;> (conv => whnf)))
        rfl
      | true =>
        repeat' (first | ((first | refine opt_some (getC_rows rfl rfl (by omega)) ?_ | refine opt_some (by dsimp only; exact getC_lent rfl rfl (by omega)) ?_ | refine opt_some rfl ?_ | refine ⟨_, (by simp only [nf, nl, nm, en, ints, setC_setC, Nat.reduceAdd, Nat.reduceMul]; exact rfl), ?_⟩ | refine ⟨_, pickT rfl, ?_⟩ | refine ⟨_, rfl, ?_⟩ | refine iteP_true rfl ?_ | refine iteP_false rfl ?_ | refine iteP_true ‹_› ?_ | refine iteP_false ‹_› ?_ | refine andK ?_ | refine andA ?_ | refine andT ?_); conv => whnf) | (refine iteP_intro (fun hb => ?_) (fun hb => ?_) <;> (conv => whnf)))
        (refine ⟨_, l03Word_ret m xs hxs (by omega) (by omega), ?_⟩; conv => whnf)
        cases h4 : wordN m xs with
        | false =>
          have h : morphC n ds m es rs (wordN m xs) = 2 := morphC_2 h1 h2 (by rw [h3, h4]; rfl)
          rw [preR_bad (by rw [h]; simp), h]
          repeat' (first | ((first | refine opt_some (getC_rows rfl rfl (by omega)) ?_ | refine opt_some (by dsimp only; exact getC_lent rfl rfl (by omega)) ?_ | refine opt_some rfl ?_ | refine ⟨_, (by simp only [nf, nl, nm, en, ints, setC_setC, Nat.reduceAdd, Nat.reduceMul]; exact rfl), ?_⟩ | refine ⟨_, pickT rfl, ?_⟩ | refine ⟨_, rfl, ?_⟩ | refine iteP_true rfl ?_ | refine iteP_false rfl ?_ | refine iteP_true ‹_› ?_ | refine iteP_false ‹_› ?_ | refine andK ?_ | refine andA ?_ | refine andT ?_); conv => whnf) | (refine iteP_intro (fun hb => ?_) (fun hb => ?_) <;> (conv => whnf)))
          rfl
        | true =>
          obtain ⟨ms, e1, rfl, rfl, hl1, hA⟩ := alpha_ok h1
          obtain ⟨ks, e2, rfl, rfl, hl2, hB⟩ := alpha_ok h2
          obtain ⟨im, e3, rfl, hi, hws⟩ := map_ok h3
          obtain ⟨v, e4, rfl, hvl, hvd⟩ := word_nat h4
          have hvd := word_wd hvd
          have hvn := natI_length v
          have hr := l08Morphism_ret ms ks im hA hl1 hB hl2 hi hws
          unfold rowsI at hr
          have hmc := morphC_3 h1 h2 (show (mapOk ms.length ks.length (im.map natI) && wordN ks.length (natI v)) = true by rw [h3, h4]; rfl) e1 e2 e3
          repeat' (first | ((first | refine opt_some (getC_rows rfl rfl (by omega)) ?_ | refine opt_some (by dsimp only; exact getC_lent rfl rfl (by omega)) ?_ | refine opt_some rfl ?_ | refine ⟨_, (by simp only [nf, nl, nm, en, ints, setC_setC, Nat.reduceAdd, Nat.reduceMul]; exact rfl), ?_⟩ | refine ⟨_, pickT rfl, ?_⟩ | refine ⟨_, rfl, ?_⟩ | refine iteP_true rfl ?_ | refine iteP_false rfl ?_ | refine iteP_true ‹_› ?_ | refine iteP_false ‹_› ?_ | refine andK ?_ | refine andA ?_ | refine andT ?_); conv => whnf) | (refine iteP_intro (fun hb => ?_) (fun hb => ?_) <;> (conv => whnf)))
          (refine ⟨_, hr, ?_⟩; conv => whnf)
          cases h5 : respN ms ks im with
          | false =>
            rw [h5, if_neg (by simp)] at hmc
            rw [preR_bad (by rw [hmc]; simp), hmc]
            repeat' (first | ((first | refine opt_some (getC_rows rfl rfl (by omega)) ?_ | refine opt_some (by dsimp only; exact getC_lent rfl rfl (by omega)) ?_ | refine opt_some rfl ?_ | refine ⟨_, (by simp only [nf, nl, nm, en, ints, setC_setC, Nat.reduceAdd, Nat.reduceMul]; exact rfl), ?_⟩ | refine ⟨_, pickT rfl, ?_⟩ | refine ⟨_, rfl, ?_⟩ | refine iteP_true rfl ?_ | refine iteP_false rfl ?_ | refine iteP_true ‹_› ?_ | refine iteP_false ‹_› ?_ | refine andK ?_ | refine andA ?_ | refine andT ?_); conv => whnf) | (refine iteP_intro (fun hb => ?_) (fun hb => ?_) <;> (conv => whnf)))
            rfl
          | true =>
            rw [h5, if_pos rfl] at hmc
            rw [preR_ok hmc e1 e2 e3 e4 hvn]
            have hil : (im.map natI).length = im.length := List.length_map _
            repeat' (first | ((first | refine opt_some (getC_rows rfl rfl (by omega)) ?_ | refine opt_some (by dsimp only; exact getC_lent rfl rfl (by omega)) ?_ | refine opt_some rfl ?_ | refine ⟨_, (by simp only [nf, nl, nm, en, ints, setC_setC, Nat.reduceAdd, Nat.reduceMul]; exact rfl), ?_⟩ | refine ⟨_, pickT rfl, ?_⟩ | refine ⟨_, rfl, ?_⟩ | refine iteP_true rfl ?_ | refine iteP_false rfl ?_ | refine iteP_true ‹_› ?_ | refine iteP_false ‹_› ?_ | refine andK ?_ | refine andA ?_ | refine andT ?_); conv => whnf) | (refine iteP_intro (fun hb => ?_) (fun hb => ?_) <;> (conv => whnf)))
            refine ⟨fun k vs => ∃ i : Nat, i ≤ im.length ∧ (∀ w ∈ im.take i, w.length ≠ 0) ∧ vs = [.one (.ptr [i64 ms.length, .shd (ints (natI ms))]), .one (.ptr [i64 ks.length, .shd (ints (natI ks))]), .one (i64 i), .one (.shd (.sl false 1 (im.map natI).length ((im.map natI).map ints))), .one (.shd (ints (natI v)))] ∧ k = im.length - i, rfl, ⟨_, 0, by omega, by simp, rfl, rfl⟩, ?_⟩
            rintro k vs ⟨i, hi', hs, rfl, rfl⟩
            repeat (first | ((first | refine opt_some (getC_rows rfl rfl (by omega)) ?_ | refine opt_some (by dsimp only; exact getC_lent rfl rfl (by omega)) ?_ | refine opt_some rfl ?_ | refine ⟨_, (by simp only [nf, nl, nm, en, ints, setC_setC, Nat.reduceAdd, Nat.reduceMul]; exact rfl), ?_⟩ | refine ⟨_, pickT rfl, ?_⟩ | refine ⟨_, rfl, ?_⟩ | refine iteP_true rfl ?_ | refine iteP_false rfl ?_ | refine iteP_true ‹_› ?_ | refine iteP_false ‹_› ?_ | refine andK ?_ | refine andA ?_ | refine andT ?_); conv => whnf))
            refine iteP_intro (fun hb => ?_) (fun hb => ?_) <;> (conv => whnf)
            · have hi'' : i < im.length := by have := leT hb; omega
              have hga := rows_get_len hi'' (by omega)
              have hgw : (im.getD i []).length = im[i].length := by rw [List.getD_eq_getElem?_getD, List.getElem?_eq_getElem hi'', Option.getD_some]
              repeat (first | ((first | refine opt_some (getC_rows rfl rfl (by omega)) ?_ | refine opt_some (by dsimp only; exact getC_lent rfl rfl (by omega)) ?_ | refine opt_some rfl ?_ | refine ⟨_, (by simp only [nf, nl, nm, en, ints, setC_setC, Nat.reduceAdd, Nat.reduceMul]; exact rfl), ?_⟩ | refine ⟨_, pickT rfl, ?_⟩ | refine ⟨_, rfl, ?_⟩ | refine iteP_true rfl ?_ | refine iteP_false rfl ?_ | refine iteP_true ‹_› ?_ | refine iteP_false ‹_› ?_ | refine andK ?_ | refine andA ?_ | refine andT ?_); conv => whnf))
              refine iteP_intro (fun hb => ?_) (fun hb => ?_) <;> (conv => whnf)
              · have h0 : im[i].length = 0 := by have := eqT hb; omega
                rw [if_pos (List.any_eq_true.2 ⟨im[i], List.getElem_mem _, decide_eq_true h0⟩)]
                repeat' (first | ((first | refine opt_some (getC_rows rfl rfl (by omega)) ?_ | refine opt_some (by dsimp only; exact getC_lent rfl rfl (by omega)) ?_ | refine opt_some rfl ?_ | refine ⟨_, (by simp only [nf, nl, nm, en, ints, setC_setC, Nat.reduceAdd, Nat.reduceMul]; exact rfl), ?_⟩ | refine ⟨_, pickT rfl, ?_⟩ | refine ⟨_, rfl, ?_⟩ | refine iteP_true rfl ?_ | refine iteP_false rfl ?_ | refine iteP_true ‹_› ?_ | refine iteP_false ‹_› ?_ | refine andK ?_ | refine andA ?_ | refine andT ?_); conv => whnf) | (refine iteP_intro (fun hb => ?_) (fun hb => ?_) <;> (conv => whnf)))
                rfl
              · have h0 : im[i].length ≠ 0 := by have := eqF hb; omega
                repeat (first | ((first | refine opt_some (getC_rows rfl rfl (by omega)) ?_ | refine opt_some (by dsimp only; exact getC_lent rfl rfl (by omega)) ?_ | refine opt_some rfl ?_ | refine ⟨_, (by simp only [nf, nl, nm, en, ints, setC_setC, Nat.reduceAdd, Nat.reduceMul]; exact rfl), ?_⟩ | refine ⟨_, pickT rfl, ?_⟩ | refine ⟨_, rfl, ?_⟩ | refine iteP_true rfl ?_ | refine iteP_false rfl ?_ | refine iteP_true ‹_› ?_ | refine iteP_false ‹_› ?_ | refine andK ?_ | refine andA ?_ | refine andT ?_); conv => whnf))
                refine ⟨_, ?_, i + 1, hi'', fun w hw => ?_, ?_, rfl⟩
                · omega
                · rw [List.take_succ_eq_append_getElem hi''] at hw
                  rcases List.mem_append.1 hw with h | h
                  · exact hs w h
                  · obtain rfl := List.mem_singleton.1 h
                    exact h0
                · rw [wrap_succ (by omega)]
                  rfl
            · obtain rfl : i = im.length := by have := leF hb; omega
              rw [List.take_length] at hs
              rw [if_neg (fun ha => by obtain ⟨w, hw, hh⟩ := List.any_eq_true.1 ha; exact hs w hw (of_decide_eq_true hh))]
              have hg := preS_ret ms ks im hA hl1 hB hl2 hi hws hs v.length [] v [] (Nat.le_refl _) (by simpa using hvl) (.nil _) rfl hvd (by simp)
              have hlen := prG_len ms ks im v.length [] v [] (by simp)
              generalize prG ms ks im v.length [] v [] = o at hg hlen
              unfold rowsC rowsI at hg
              unfold rowsC
              repeat' (first | ((first | refine opt_some (getC_rows rfl rfl (by omega)) ?_ | refine opt_some (by dsimp only; exact getC_lent rfl rfl (by omega)) ?_ | refine opt_some rfl ?_ | refine ⟨_, (by simp only [nf, nl, nm, en, ints, setC_setC, Nat.reduceAdd, Nat.reduceMul]; exact rfl), ?_⟩ | refine ⟨_, pickT rfl, ?_⟩ | refine ⟨_, rfl, ?_⟩ | refine iteP_true rfl ?_ | refine iteP_false rfl ?_ | refine iteP_true ‹_› ?_ | refine iteP_false ‹_› ?_ | refine andK ?_ | refine andA ?_ | refine andT ?_); conv => whnf) | (refine iteP_intro (fun hb => ?_) (fun hb => ?_) <;> (conv => whnf)))
              (refine ⟨_, hg, ?_⟩; conv => whnf)
              repeat' (first | ((first | refine opt_some (getC_rows rfl rfl (by omega)) ?_ | refine opt_some (by dsimp only; exact getC_lent rfl rfl (by omega)) ?_ | refine opt_some rfl ?_ | refine ⟨_, (by simp only [nf, nl, nm, en, ints, setC_setC, Nat.reduceAdd, Nat.reduceMul]; exact rfl), ?_⟩ | refine ⟨_, pickT rfl, ?_⟩ | refine ⟨_, rfl, ?_⟩ | refine iteP_true rfl ?_ | refine iteP_false rfl ?_ | refine iteP_true ‹_› ?_ | refine iteP_false ‹_› ?_ | refine andK ?_ | refine andA ?_ | refine andT ?_); conv => whnf) | (refine iteP_intro (fun hb => ?_) (fun hb => ?_) <;> (conv => whnf)))
              · rw [if_pos (by have := leT hb; omega)]
                rfl
              · rw [if_neg (by have := leF hb; omega)]
                rfl
end Go.Proofs.YtpopepcmfanegaaDoor
