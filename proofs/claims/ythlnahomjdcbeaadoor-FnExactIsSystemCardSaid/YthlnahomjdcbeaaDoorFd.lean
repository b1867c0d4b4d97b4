import Derived.Test.YthlnahomjdcbeaaDoorFc
set_option autoImplicit false
set_option linter.unusedSimpArgs false
set_option linter.unusedVariables false
namespace Go.Proofs.YthlnahomjdcbeaaDoor
open Go.Den
set_option maxHeartbeats 4000000 in
set_option maxRecDepth 100000 in
theorem isWord_ret (n : Int) (d w : List Int) (hx : w.length < 2 ^ 62) (h0 : 0 ≤ n) (hn : n < 2 ^ 62) : Ret Tryd.prog G0 41 [⟨.ro, .agg [i64 n, ints d]⟩, ⟨.ro, .one (ints w)⟩] ⟨.one (.c (.bool (wordN n w))), []⟩ := by
  (refine ret_of_den (E := en 15 [] (fun _ => [])) tt_ok mixed Tryd.func41 rfl rfl rfl rfl ?_; refine ⟨by simp, ?_⟩)
  have hw : IntKind.i64.wrap (n - 1) = n - 1 := wrap_i64 (by omega) (by omega)
  repeat' (first | (refine ⟨_, (by simp only [nf, nl, nm, en, ints, Nat.reduceAdd, Nat.reduceMul, hw]; exact rfl), ?_⟩; conv => whnf) | (refine ⟨_, pick_at rfl (by first | exact Nat.le_of_ble_eq_true rfl | rfl | exact plain_i64 _ | exact plain_ints _ | exact all_ints _ | omega | (dsimp only; omega) | (simp; done) | (simp only [htf] at *; first | omega | (simp; omega))), ?_⟩; conv => whnf) | (refine ⟨_, rfl, ?_⟩; conv => whnf) | (first | refine iteP_true rfl ?_ | refine iteP_false rfl ?_ | refine iteP_true ‹_› ?_ | refine iteP_false ‹_› ?_; conv => whnf) | (refine And.intro (by kernel_rfl : indep _ _ = true) ?_; conv => whnf) | (refine And.intro (by rfl : List.all _ (noE _) = true) ?_; conv => whnf) | (refine And.intro (by first | exact Nat.le_of_ble_eq_true rfl | rfl | exact plain_i64 _ | exact plain_ints _ | exact all_ints _ | omega | (dsimp only; omega) | (simp; done) | (simp only [htf] at *; first | omega | (simp; omega))) ?_; conv => whnf) | (refine iteP_intro (fun hb => ?_) (fun hb => ?_) <;> (conv => whnf)))
  · (refine ⟨_, allIn_ret w _ _ hx, ?_⟩; conv => whnf)
    repeat' (first | (refine ⟨_, (by simp only [nf, nl, nm, en, ints, Nat.reduceAdd, Nat.reduceMul]; exact rfl), ?_⟩; conv => whnf) | (refine ⟨_, pick_at rfl (by first | exact Nat.le_of_ble_eq_true rfl | rfl | exact plain_i64 _ | exact plain_ints _ | exact all_ints _ | omega | (dsimp only; omega) | (simp; done) | (simp only [htf] at *; first | omega | (simp; omega))), ?_⟩; conv => whnf) | (refine ⟨_, rfl, ?_⟩; conv => whnf) | (first | refine iteP_true rfl ?_ | refine iteP_false rfl ?_ | refine iteP_true ‹_› ?_ | refine iteP_false ‹_› ?_; conv => whnf) | (refine And.intro (by kernel_rfl : indep _ _ = true) ?_; conv => whnf) | (refine And.intro (by rfl : List.all _ (noE _) = true) ?_; conv => whnf) | (refine And.intro (by first | exact Nat.le_of_ble_eq_true rfl | rfl | exact plain_i64 _ | exact plain_ints _ | exact all_ints _ | omega | (dsimp only; omega) | (simp; done) | (simp only [htf] at *; first | omega | (simp; omega))) ?_; conv => whnf) | (refine iteP_intro (fun hb => ?_) (fun hb => ?_) <;> (conv => whnf)))
    refine endB ?_
    unfold wordN
    rw [decide_eq_true (by have := leT hb; omega)]
    rfl
  · refine endB ?_
    unfold wordN
    rw [decide_eq_false (by have := leF hb; omega)]
    rfl
set_option maxHeartbeats 4000000 in
set_option maxRecDepth 100000 in
theorem l03Word_ret (n : Int) (xs : List Int) (hx : xs.length < 2 ^ 62) (h0 : 0 ≤ n) (hn : n < 2 ^ 62) : Ret Tryd.prog G0 62 [⟨.ro, .one (i64 n)⟩, ⟨.ro, .one (ints xs)⟩] ⟨.one (.c (.bool (wordN n xs))), []⟩ := by
  (refine ret_of_den (E := en 23 [] (fun _ => [(5, 0), (0, 0), (1, 1)])) tt_ok mixed Tryd.func62 rfl rfl rfl rfl ?_; refine ⟨by simp, ?_⟩)
  have hw : IntKind.i64.wrap (n - 1) = n - 1 := wrap_i64 (by omega) (by omega)
  repeat' (first | (refine ⟨_, (by simp only [nf, nl, nm, en, ints, Nat.reduceAdd, Nat.reduceMul, hw]; exact rfl), ?_⟩; conv => whnf) | (refine ⟨_, pick_at rfl (by first | exact Nat.le_of_ble_eq_true rfl | rfl | exact plain_i64 _ | exact plain_ints _ | exact all_ints _ | omega | (dsimp only; omega) | (simp; done) | (simp only [htf] at *; first | omega | (simp; omega))), ?_⟩; conv => whnf) | (refine ⟨_, rfl, ?_⟩; conv => whnf) | (first | refine iteP_true rfl ?_ | refine iteP_false rfl ?_ | refine iteP_true ‹_› ?_ | refine iteP_false ‹_› ?_; conv => whnf) | (refine And.intro (by kernel_rfl : indep _ _ = true) ?_; conv => whnf) | (refine And.intro (by rfl : List.all _ (noE _) = true) ?_; conv => whnf) | (refine And.intro (by first | exact Nat.le_of_ble_eq_true rfl | rfl | exact plain_i64 _ | exact plain_ints _ | exact all_ints _ | omega | (dsimp only; omega) | (simp; done) | (simp only [htf] at *; first | omega | (simp; omega))) ?_; conv => whnf) | (refine iteP_intro (fun hb => ?_) (fun hb => ?_) <;> (conv => whnf)))
  · refine endB ?_
    unfold wordN
    rw [decide_eq_false (by have := leT hb; omega)]
    rfl
  have hl : xs.length ≤ 24 := by have := leF hb; omega
  refine ⟨fun k vs => ∃ i : Nat, i ≤ xs.length ∧ (∀ x ∈ xs.take i, 0 ≤ x ∧ x ≤ n - 1) ∧ vs = [.one (i64 i), .one (i64 n), .one (.shd (ints xs))] ∧ k = xs.length - i, rfl, ⟨_, 0, by omega, by simp, rfl, rfl⟩, ?_⟩
  rintro k vs ⟨i, hi, hs, rfl, rfl⟩
  repeat' (first | (refine ⟨_, (by simp only [nf, nl, nm, en, ints, Nat.reduceAdd, Nat.reduceMul, hw]; exact rfl), ?_⟩; conv => whnf) | (refine ⟨_, pick_at rfl (by first | exact Nat.le_of_ble_eq_true rfl | rfl | exact plain_i64 _ | exact plain_ints _ | exact all_ints _ | omega | (dsimp only; omega) | (simp; done) | (simp only [htf] at *; first | omega | (simp; omega))), ?_⟩; conv => whnf) | (refine ⟨_, rfl, ?_⟩; conv => whnf) | (first | refine iteP_true rfl ?_ | refine iteP_false rfl ?_ | refine iteP_true ‹_› ?_ | refine iteP_false ‹_› ?_; conv => whnf) | (refine And.intro (by kernel_rfl : indep _ _ = true) ?_; conv => whnf) | (refine And.intro (by rfl : List.all _ (noE _) = true) ?_; conv => whnf) | (refine And.intro (by first | exact Nat.le_of_ble_eq_true rfl | rfl | exact plain_i64 _ | exact plain_ints _ | exact all_ints _ | omega | (dsimp only; omega) | (simp; done) | (simp only [htf] at *; first | omega | (simp; omega))) ?_; conv => whnf) | (refine iteP_intro (fun hb => ?_) (fun hb => ?_) <;> (conv => whnf)))
  · have hi' := ltT hb
    (refine ⟨_, l01In_ret _ _ _, ?_⟩; conv => whnf)
    repeat' (first | (refine ⟨_, (by simp only [nf, nl, nm, en, ints, Nat.reduceAdd, Nat.reduceMul, hw]; exact rfl), ?_⟩; conv => whnf) | (refine ⟨_, pick_at rfl (by first | exact Nat.le_of_ble_eq_true rfl | rfl | exact plain_i64 _ | exact plain_ints _ | exact all_ints _ | omega | (dsimp only; omega) | (simp; done) | (simp only [htf] at *; first | omega | (simp; omega))), ?_⟩; conv => whnf) | (refine ⟨_, rfl, ?_⟩; conv => whnf) | (first | refine iteP_true rfl ?_ | refine iteP_false rfl ?_ | refine iteP_true ‹_› ?_ | refine iteP_false ‹_› ?_; conv => whnf) | (refine And.intro (by kernel_rfl : indep _ _ = true) ?_; conv => whnf) | (refine And.intro (by rfl : List.all _ (noE _) = true) ?_; conv => whnf) | (refine And.intro (by first | exact Nat.le_of_ble_eq_true rfl | rfl | exact plain_i64 _ | exact plain_ints _ | exact all_ints _ | omega | (dsimp only; omega) | (simp; done) | (simp only [htf] at *; first | omega | (simp; omega))) ?_; conv => whnf) | (refine iteP_intro (fun hb => ?_) (fun hb => ?_) <;> (conv => whnf)))
    · refine endB ?_
      unfold wordN
      rw [show (xs.all fun x => decide (0 ≤ x ∧ x ≤ n - 1)) = false from List.all_eq_false.2 ⟨xs[i], List.getElem_mem _, by intro h; rw [h] at hb; cases hb⟩, Bool.and_false]
    · refine ⟨_, ?_, i + 1, hi', fun x hd => ?_, by rw [wrap_succ (by omega)]; rfl, rfl⟩
      · omega
      · rw [List.take_succ_eq_append_getElem hi'] at hd
        rcases List.mem_append.1 hd with h | h
        · exact hs x h
        · obtain rfl := List.mem_singleton.1 h
          simpa using hb
  · obtain rfl : i = xs.length := Nat.le_antisymm hi (ltF hb)
    rw [List.take_length] at hs
    refine endB ?_
    unfold wordN
    rw [decide_eq_true hl, List.all_eq_true.2 fun x hx => decide_eq_true (hs x hx)]
    rfl
set_option maxHeartbeats 4000000 in
set_option maxRecDepth 100000 in
theorem isSys1_ret (n : Int) (ds : List Int) (r : List Int × List Int) (h1 : r.1.length < 2 ^ 62) (h2 : r.2.length < 2 ^ 62) (h0 : 0 ≤ n) (hn : n < 2 ^ 62) : Ret Tryd.prog G0 40 [⟨.ro, .agg [ints r.1, ints r.2]⟩, ⟨.ro, .one (.ptr [i64 n, ints ds])⟩] ⟨.one (.c (.bool (!ruleOk n r))), []⟩ := by
  (refine ret_of_den (E := en 25 [] (fun _ => [])) tt_ok mixed Tryd.func40 rfl rfl rfl rfl ?_; refine ⟨by simp, ?_⟩)
  repeat' (first | (refine ⟨_, (by simp only [nf, nl, nm, en, ints, Nat.reduceAdd, Nat.reduceMul]; exact rfl), ?_⟩; conv => whnf) | (refine ⟨_, pick_at rfl (by first | exact Nat.le_of_ble_eq_true rfl | rfl | exact plain_i64 _ | exact plain_ints _ | exact all_ints _ | omega | (dsimp only; omega) | (simp; done) | (simp only [htf] at *; first | omega | (simp; omega))), ?_⟩; conv => whnf) | (refine ⟨_, rfl, ?_⟩; conv => whnf) | (first | refine iteP_true rfl ?_ | refine iteP_false rfl ?_ | refine iteP_true ‹_› ?_ | refine iteP_false ‹_› ?_; conv => whnf) | (refine And.intro (by kernel_rfl : indep _ _ = true) ?_; conv => whnf) | (refine And.intro (by rfl : List.all _ (noE _) = true) ?_; conv => whnf) | (refine And.intro (by first | exact Nat.le_of_ble_eq_true rfl | rfl | exact plain_i64 _ | exact plain_ints _ | exact all_ints _ | omega | (dsimp only; omega) | (simp; done) | (simp only [htf] at *; first | omega | (simp; omega))) ?_; conv => whnf) | (refine iteP_intro (fun hb => ?_) (fun hb => ?_) <;> (conv => whnf)))
  (refine ⟨_, isWord_ret n ds r.1 h1 h0 hn, ?_⟩; conv => whnf)
  repeat' (first | (refine ⟨_, (by simp only [nf, nl, nm, en, ints, Nat.reduceAdd, Nat.reduceMul]; exact rfl), ?_⟩; conv => whnf) | (refine ⟨_, pick_at rfl (by first | exact Nat.le_of_ble_eq_true rfl | rfl | exact plain_i64 _ | exact plain_ints _ | exact all_ints _ | omega | (dsimp only; omega) | (simp; done) | (simp only [htf] at *; first | omega | (simp; omega))), ?_⟩; conv => whnf) | (refine ⟨_, rfl, ?_⟩; conv => whnf) | (first | refine iteP_true rfl ?_ | refine iteP_false rfl ?_ | refine iteP_true ‹_› ?_ | refine iteP_false ‹_› ?_; conv => whnf) | (refine And.intro (by kernel_rfl : indep _ _ = true) ?_; conv => whnf) | (refine And.intro (by rfl : List.all _ (noE _) = true) ?_; conv => whnf) | (refine And.intro (by first | exact Nat.le_of_ble_eq_true rfl | rfl | exact plain_i64 _ | exact plain_ints _ | exact all_ints _ | omega | (dsimp only; omega) | (simp; done) | (simp only [htf] at *; first | omega | (simp; omega))) ?_; conv => whnf) | (refine iteP_intro (fun hb => ?_) (fun hb => ?_) <;> (conv => whnf)))
  · refine endB ?_
    unfold ruleOk
    rw [show wordN n r.1 = false by simpa using hb]
    rfl
  · have hb1 : wordN n r.1 = true := by simpa using hb
    (refine ⟨_, isWord_ret n ds r.2 h2 h0 hn, ?_⟩; conv => whnf)
    repeat' (first | (refine ⟨_, (by simp only [nf, nl, nm, en, ints, Nat.reduceAdd, Nat.reduceMul]; exact rfl), ?_⟩; conv => whnf) | (refine ⟨_, pick_at rfl (by first | exact Nat.le_of_ble_eq_true rfl | rfl | exact plain_i64 _ | exact plain_ints _ | exact all_ints _ | omega | (dsimp only; omega) | (simp; done) | (simp only [htf] at *; first | omega | (simp; omega))), ?_⟩; conv => whnf) | (refine ⟨_, rfl, ?_⟩; conv => whnf) | (first | refine iteP_true rfl ?_ | refine iteP_false rfl ?_ | refine iteP_true ‹_› ?_ | refine iteP_false ‹_› ?_; conv => whnf) | (refine And.intro (by kernel_rfl : indep _ _ = true) ?_; conv => whnf) | (refine And.intro (by rfl : List.all _ (noE _) = true) ?_; conv => whnf) | (refine And.intro (by first | exact Nat.le_of_ble_eq_true rfl | rfl | exact plain_i64 _ | exact plain_ints _ | exact all_ints _ | omega | (dsimp only; omega) | (simp; done) | (simp only [htf] at *; first | omega | (simp; omega))) ?_; conv => whnf) | (refine iteP_intro (fun hb => ?_) (fun hb => ?_) <;> (conv => whnf)))
    · refine endB ?_
      unfold ruleOk
      rw [show wordN n r.2 = false by simpa using hb]
      simp
    · refine endB ?_
      unfold ruleOk
      rw [hb1, show wordN n r.2 = true by simpa using hb]
      simp
set_option maxHeartbeats 4000000 in
set_option maxRecDepth 100000 in
theorem indexFR_ret (n : Int) (ds : List Int) (rs : List (List Int × List Int)) (hw : rs.length < 2 ^ 62) (hx : ∀ r ∈ rs, r.1.length < 2 ^ 62 ∧ r.2.length < 2 ^ 62) (h0 : 0 ≤ n) (hn : n < 2 ^ 62) : Ret Tryd.prog G0 63 [⟨.ro, .one (rulesC rs)⟩, ⟨.ro, .one (.fn (.func 40) [.ptr [i64 n, ints ds]])⟩] ⟨.one (i64 (findI (fun r => !ruleOk n r) rs 0)), []⟩ := by
  unfold rulesC
  (refine ret_of_den (E := en 19 [] (fun _ => [(7, 0), (8, 0), (0, 1), (1, 1)])) tt_ok mixed Tryd.func63 rfl rfl rfl rfl ?_; refine ⟨by simp, ?_⟩)
  repeat' (first | (refine ⟨_, (by simp only [nf, nl, nm, en, ints, Nat.reduceAdd, Nat.reduceMul]; exact rfl), ?_⟩; conv => whnf) | (refine ⟨_, pick_at rfl (by first | exact Nat.le_of_ble_eq_true rfl | rfl | exact plain_i64 _ | exact plain_ints _ | exact all_ints _ | omega | (dsimp only; omega) | (simp; done) | (simp only [htf] at *; first | omega | (simp; omega))), ?_⟩; conv => whnf) | (refine ⟨_, rfl, ?_⟩; conv => whnf) | (first | refine iteP_true rfl ?_ | refine iteP_false rfl ?_ | refine iteP_true ‹_› ?_ | refine iteP_false ‹_› ?_; conv => whnf) | (refine And.intro (by kernel_rfl : indep _ _ = true) ?_; conv => whnf) | (refine And.intro (by rfl : List.all _ (noE _) = true) ?_; conv => whnf) | (refine And.intro (by first | exact Nat.le_of_ble_eq_true rfl | rfl | exact plain_i64 _ | exact plain_ints _ | exact all_ints _ | omega | (dsimp only; omega) | (simp; done) | (simp only [htf] at *; first | omega | (simp; omega))) ?_; conv => whnf) | (refine iteP_intro (fun hb => ?_) (fun hb => ?_) <;> (conv => whnf)))
  refine ⟨fun k vs => ∃ i : Nat, i ≤ rs.length ∧ findI (fun r => !ruleOk n r) rs 0 = findI (fun r => !ruleOk n r) (rs.drop i) i ∧ vs = [.one (i64 rs.length), .one (i64 i), .one (.shd (.sl false 2 rs.length (rs.flatMap ruleC))), .one (.shd (.fn (.func 40) [.ptr [i64 n, ints ds]]))] ∧ k = rs.length - i, rfl, ?_, ?_⟩
  · exact ⟨_, 0, by omega, by simp, rfl, rfl⟩
  · rintro k vs ⟨i, hi, hf, rfl, rfl⟩
    repeat (first | (refine ⟨_, (by simp only [nf, nl, nm, en, ints, Nat.reduceAdd, Nat.reduceMul]; exact rfl), ?_⟩; conv => whnf) | (refine ⟨_, pick_at rfl (by first | exact Nat.le_of_ble_eq_true rfl | rfl | exact plain_i64 _ | exact plain_ints _ | exact all_ints _ | omega | (dsimp only; omega) | (simp; done) | (simp only [htf] at *; first | omega | (simp; omega))), ?_⟩; conv => whnf) | (refine ⟨_, rfl, ?_⟩; conv => whnf) | (first | refine iteP_true rfl ?_ | refine iteP_false rfl ?_ | refine iteP_true ‹_› ?_ | refine iteP_false ‹_› ?_; conv => whnf) | (refine And.intro (by kernel_rfl : indep _ _ = true) ?_; conv => whnf) | (refine And.intro (by rfl : List.all _ (noE _) = true) ?_; conv => whnf) | (refine And.intro (by first | exact Nat.le_of_ble_eq_true rfl | rfl | exact plain_i64 _ | exact plain_ints _ | exact all_ints _ | omega | (dsimp only; omega) | (simp; done) | (simp only [htf] at *; first | omega | (simp; omega))) ?_; conv => whnf))
    refine iteP_intro (fun hb => ?_) (fun hb => ?_) <;> (conv => whnf)
    · have hi' := ltT hb
      repeat (first | (refine ⟨_, (by simp only [nf, nl, nm, en, ints, Nat.reduceAdd, Nat.reduceMul]; exact rfl), ?_⟩; conv => whnf) | (refine ⟨_, pick_at rfl (by first | exact Nat.le_of_ble_eq_true rfl | rfl | exact plain_i64 _ | exact plain_ints _ | exact all_ints _ | omega | (dsimp only; omega) | (simp; done) | (simp only [htf] at *; first | omega | (simp; omega))), ?_⟩; conv => whnf) | (refine ⟨_, rfl, ?_⟩; conv => whnf) | (first | refine iteP_true rfl ?_ | refine iteP_false rfl ?_ | refine iteP_true ‹_› ?_ | refine iteP_false ‹_› ?_; conv => whnf) | (refine And.intro (by kernel_rfl : indep _ _ = true) ?_; conv => whnf) | (refine And.intro (by rfl : List.all _ (noE _) = true) ?_; conv => whnf) | (refine And.intro (by first | exact Nat.le_of_ble_eq_true rfl | rfl | exact plain_i64 _ | exact plain_ints _ | exact all_ints _ | omega | (dsimp only; omega) | (simp; done) | (simp only [htf] at *; first | omega | (simp; omega))) ?_; conv => whnf))
      refine ⟨_, pick_rule rfl hi', ?_⟩
      conv => whnf
      repeat (first | (refine ⟨_, (by simp only [nf, nl, nm, en, ints, Nat.reduceAdd, Nat.reduceMul]; exact rfl), ?_⟩; conv => whnf) | (refine ⟨_, pick_at rfl (by first | exact Nat.le_of_ble_eq_true rfl | rfl | exact plain_i64 _ | exact plain_ints _ | exact all_ints _ | omega | (dsimp only; omega) | (simp; done) | (simp only [htf] at *; first | omega | (simp; omega))), ?_⟩; conv => whnf) | (refine ⟨_, rfl, ?_⟩; conv => whnf) | (first | refine iteP_true rfl ?_ | refine iteP_false rfl ?_ | refine iteP_true ‹_› ?_ | refine iteP_false ‹_› ?_; conv => whnf) | (refine And.intro (by kernel_rfl : indep _ _ = true) ?_; conv => whnf) | (refine And.intro (by rfl : List.all _ (noE _) = true) ?_; conv => whnf) | (refine And.intro (by first | exact Nat.le_of_ble_eq_true rfl | rfl | exact plain_i64 _ | exact plain_ints _ | exact all_ints _ | omega | (dsimp only; omega) | (simp; done) | (simp only [htf] at *; first | omega | (simp; omega))) ?_; conv => whnf))
      (refine ⟨_, isSys1_ret n ds _ (hx _ (List.getElem_mem hi')).1 (hx _ (List.getElem_mem hi')).2 h0 hn, ?_⟩; conv => whnf)
      repeat' (first | (refine ⟨_, (by simp only [nf, nl, nm, en, ints, Nat.reduceAdd, Nat.reduceMul]; exact rfl), ?_⟩; conv => whnf) | (refine ⟨_, pick_at rfl (by first | exact Nat.le_of_ble_eq_true rfl | rfl | exact plain_i64 _ | exact plain_ints _ | exact all_ints _ | omega | (dsimp only; omega) | (simp; done) | (simp only [htf] at *; first | omega | (simp; omega))), ?_⟩; conv => whnf) | (refine ⟨_, rfl, ?_⟩; conv => whnf) | (first | refine iteP_true rfl ?_ | refine iteP_false rfl ?_ | refine iteP_true ‹_› ?_ | refine iteP_false ‹_› ?_; conv => whnf) | (refine And.intro (by kernel_rfl : indep _ _ = true) ?_; conv => whnf) | (refine And.intro (by rfl : List.all _ (noE _) = true) ?_; conv => whnf) | (refine And.intro (by first | exact Nat.le_of_ble_eq_true rfl | rfl | exact plain_i64 _ | exact plain_ints _ | exact all_ints _ | omega | (dsimp only; omega) | (simp; done) | (simp only [htf] at *; first | omega | (simp; omega))) ?_; conv => whnf) | (refine iteP_intro (fun hb => ?_) (fun hb => ?_) <;> (conv => whnf)))
      · refine endI ?_
        rw [hf, findI_T hi' hb]
      · refine ⟨_, ?_, i + 1, hi', ?_, by rw [wrap_succ (by omega)]; rfl, rfl⟩
        · omega
        · rw [hf, findI_F hi' hb]
    · repeat' (first | (refine ⟨_, (by simp only [nf, nl, nm, en, ints, Nat.reduceAdd, Nat.reduceMul]; exact rfl), ?_⟩; conv => whnf) | (refine ⟨_, pick_at rfl (by first | exact Nat.le_of_ble_eq_true rfl | rfl | exact plain_i64 _ | exact plain_ints _ | exact all_ints _ | omega | (dsimp only; omega) | (simp; done) | (simp only [htf] at *; first | omega | (simp; omega))), ?_⟩; conv => whnf) | (refine ⟨_, rfl, ?_⟩; conv => whnf) | (first | refine iteP_true rfl ?_ | refine iteP_false rfl ?_ | refine iteP_true ‹_› ?_ | refine iteP_false ‹_› ?_; conv => whnf) | (refine And.intro (by kernel_rfl : indep _ _ = true) ?_; conv => whnf) | (refine And.intro (by rfl : List.all _ (noE _) = true) ?_; conv => whnf) | (refine And.intro (by first | exact Nat.le_of_ble_eq_true rfl | rfl | exact plain_i64 _ | exact plain_ints _ | exact all_ints _ | omega | (dsimp only; omega) | (simp; done) | (simp only [htf] at *; first | omega | (simp; omega))) ?_; conv => whnf) | (refine iteP_intro (fun hb => ?_) (fun hb => ?_) <;> (conv => whnf)))
      obtain rfl : i = rs.length := Nat.le_antisymm hi (ltF hb)
      refine endI ?_
      rw [hf]; simp [findI]
set_option maxHeartbeats 4000000 in
set_option maxRecDepth 100000 in
theorem containsFR_ret (n : Int) (ds : List Int) (rs : List (List Int × List Int)) (hw : rs.length < 2 ^ 62) (hx : ∀ r ∈ rs, r.1.length < 2 ^ 62 ∧ r.2.length < 2 ^ 62) (h0 : 0 ≤ n) (hn : n < 2 ^ 62) : Ret Tryd.prog G0 39 [⟨.ro, .one (rulesC rs)⟩, ⟨.ro, .one (.fn (.func 40) [.ptr [i64 n, ints ds]])⟩] ⟨.one (.c (.bool (rs.any fun r => !ruleOk n r))), []⟩ := by
  have hi := indexFR_ret n ds rs hw hx h0 hn
  unfold rulesC at hi ⊢
  (refine ret_of_den (E := en 9 [] (fun _ => [])) tt_ok mixed Tryd.func39 rfl rfl rfl rfl ?_; refine ⟨by simp, ?_⟩)
  repeat' (first | (refine ⟨_, (by simp only [nf, nl, nm, en, ints, Nat.reduceAdd, Nat.reduceMul]; exact rfl), ?_⟩; conv => whnf) | (refine ⟨_, pick_at rfl (by first | exact Nat.le_of_ble_eq_true rfl | rfl | exact plain_i64 _ | exact plain_ints _ | exact all_ints _ | omega | (dsimp only; omega) | (simp; done) | (simp only [htf] at *; first | omega | (simp; omega))), ?_⟩; conv => whnf) | (refine ⟨_, rfl, ?_⟩; conv => whnf) | (first | refine iteP_true rfl ?_ | refine iteP_false rfl ?_ | refine iteP_true ‹_› ?_ | refine iteP_false ‹_› ?_; conv => whnf) | (refine And.intro (by kernel_rfl : indep _ _ = true) ?_; conv => whnf) | (refine And.intro (by rfl : List.all _ (noE _) = true) ?_; conv => whnf) | (refine And.intro (by first | exact Nat.le_of_ble_eq_true rfl | rfl | exact plain_i64 _ | exact plain_ints _ | exact all_ints _ | omega | (dsimp only; omega) | (simp; done) | (simp only [htf] at *; first | omega | (simp; omega))) ?_; conv => whnf) | (refine iteP_intro (fun hb => ?_) (fun hb => ?_) <;> (conv => whnf)))
  (refine ⟨_, hi, ?_⟩; conv => whnf)
  repeat' (first | (refine ⟨_, (by simp only [nf, nl, nm, en, ints, Nat.reduceAdd, Nat.reduceMul]; exact rfl), ?_⟩; conv => whnf) | (refine ⟨_, pick_at rfl (by first | exact Nat.le_of_ble_eq_true rfl | rfl | exact plain_i64 _ | exact plain_ints _ | exact all_ints _ | omega | (dsimp only; omega) | (simp; done) | (simp only [htf] at *; first | omega | (simp; omega))), ?_⟩; conv => whnf) | (refine ⟨_, rfl, ?_⟩; conv => whnf) | (first | refine iteP_true rfl ?_ | refine iteP_false rfl ?_ | refine iteP_true ‹_› ?_ | refine iteP_false ‹_› ?_; conv => whnf) | (refine And.intro (by kernel_rfl : indep _ _ = true) ?_; conv => whnf) | (refine And.intro (by rfl : List.all _ (noE _) = true) ?_; conv => whnf) | (refine And.intro (by first | exact Nat.le_of_ble_eq_true rfl | rfl | exact plain_i64 _ | exact plain_ints _ | exact all_ints _ | omega | (dsimp only; omega) | (simp; done) | (simp only [htf] at *; first | omega | (simp; omega))) ?_; conv => whnf) | (refine iteP_intro (fun hb => ?_) (fun hb => ?_) <;> (conv => whnf)))
  exact endB (findI_nonneg _ _ _ (Int.le_refl _))
set_option maxHeartbeats 4000000 in
set_option maxRecDepth 100000 in
theorem isSysI_ret (n : Int) (ds : List Int) (rs : List (List Int × List Int)) (hd : ds.length < 2 ^ 62) (hw : rs.length < 2 ^ 62) (hx : ∀ r ∈ rs, r.1.length < 2 ^ 62 ∧ r.2.length < 2 ^ 62) : Ret Tryd.prog G0 18 [⟨.ro, .agg [i64 n, ints ds]⟩, ⟨.ro, .one (rulesC rs)⟩] ⟨.one (.c (.bool (alphaOk n ds && sysOk n rs))), []⟩ := by
  unfold rulesC
  (refine ret_of_den (E := en 17 [] (fun _ => [])) tt_ok mixed Tryd.func18 rfl rfl rfl rfl ?_; refine ⟨by simp, ?_⟩)
  repeat' (first | (refine ⟨_, (by simp only [nf, nl, nm, en, ints, Nat.reduceAdd, Nat.reduceMul]; exact rfl), ?_⟩; conv => whnf) | (refine ⟨_, pick_at rfl (by first | exact Nat.le_of_ble_eq_true rfl | rfl | exact plain_i64 _ | exact plain_ints _ | exact all_ints _ | omega | (dsimp only; omega) | (simp; done) | (simp only [htf] at *; first | omega | (simp; omega))), ?_⟩; conv => whnf) | (refine ⟨_, rfl, ?_⟩; conv => whnf) | (first | refine iteP_true rfl ?_ | refine iteP_false rfl ?_ | refine iteP_true ‹_› ?_ | refine iteP_false ‹_› ?_; conv => whnf) | (refine And.intro (by kernel_rfl : indep _ _ = true) ?_; conv => whnf) | (refine And.intro (by rfl : List.all _ (noE _) = true) ?_; conv => whnf) | (refine And.intro (by first | exact Nat.le_of_ble_eq_true rfl | rfl | exact plain_i64 _ | exact plain_ints _ | exact all_ints _ | omega | (dsimp only; omega) | (simp; done) | (simp only [htf] at *; first | omega | (simp; omega))) ?_; conv => whnf) | (refine iteP_intro (fun hb => ?_) (fun hb => ?_) <;> (conv => whnf)))
  (refine ⟨_, isAlpha_ret n ds hd, ?_⟩; conv => whnf)
  repeat' (first | (refine ⟨_, (by simp only [nf, nl, nm, en, ints, Nat.reduceAdd, Nat.reduceMul]; exact rfl), ?_⟩; conv => whnf) | (refine ⟨_, pick_at rfl (by first | exact Nat.le_of_ble_eq_true rfl | rfl | exact plain_i64 _ | exact plain_ints _ | exact all_ints _ | omega | (dsimp only; omega) | (simp; done) | (simp only [htf] at *; first | omega | (simp; omega))), ?_⟩; conv => whnf) | (refine ⟨_, rfl, ?_⟩; conv => whnf) | (first | refine iteP_true rfl ?_ | refine iteP_false rfl ?_ | refine iteP_true ‹_› ?_ | refine iteP_false ‹_› ?_; conv => whnf) | (refine And.intro (by kernel_rfl : indep _ _ = true) ?_; conv => whnf) | (refine And.intro (by rfl : List.all _ (noE _) = true) ?_; conv => whnf) | (refine And.intro (by first | exact Nat.le_of_ble_eq_true rfl | rfl | exact plain_i64 _ | exact plain_ints _ | exact all_ints _ | omega | (dsimp only; omega) | (simp; done) | (simp only [htf] at *; first | omega | (simp; omega))) ?_; conv => whnf) | (refine iteP_intro (fun hb => ?_) (fun hb => ?_) <;> (conv => whnf)))
  · refine endB ?_
    rw [show alphaOk n ds = false by simpa using hb]
    rfl
  · refine endB ?_
    unfold sysOk
    rw [decide_eq_false (by have := leT hb; omega)]
    simp
  · have ha : alphaOk n ds = true := by simpa using ‹(!alphaOk n ds) = false›
    have hn := alphaOk_n ha
    have hc := containsFR_ret n ds rs hw hx (by omega) (by omega)
    unfold rulesC at hc
    (refine ⟨_, hc, ?_⟩; conv => whnf)
    repeat' (first | (refine ⟨_, (by simp only [nf, nl, nm, en, ints, Nat.reduceAdd, Nat.reduceMul]; exact rfl), ?_⟩; conv => whnf) | (refine ⟨_, pick_at rfl (by first | exact Nat.le_of_ble_eq_true rfl | rfl | exact plain_i64 _ | exact plain_ints _ | exact all_ints _ | omega | (dsimp only; omega) | (simp; done) | (simp only [htf] at *; first | omega | (simp; omega))), ?_⟩; conv => whnf) | (refine ⟨_, rfl, ?_⟩; conv => whnf) | (first | refine iteP_true rfl ?_ | refine iteP_false rfl ?_ | refine iteP_true ‹_› ?_ | refine iteP_false ‹_› ?_; conv => whnf) | (refine And.intro (by kernel_rfl : indep _ _ = true) ?_; conv => whnf) | (refine And.intro (by rfl : List.all _ (noE _) = true) ?_; conv => whnf) | (refine And.intro (by first | exact Nat.le_of_ble_eq_true rfl | rfl | exact plain_i64 _ | exact plain_ints _ | exact all_ints _ | omega | (dsimp only; omega) | (simp; done) | (simp only [htf] at *; first | omega | (simp; omega))) ?_; conv => whnf) | (refine iteP_intro (fun hb => ?_) (fun hb => ?_) <;> (conv => whnf)))
    refine endB ?_
    unfold sysOk
    rw [ha, decide_eq_true (by have := leF hb; omega), List.all_eq_not_any_not]
    rfl
set_option maxHeartbeats 4000000 in
set_option maxRecDepth 100000 in
theorem l10Sys_ret (n : Int) (ds : List Int) (rs : List (List Int × List Int)) (hd : ds.length < 2 ^ 62) (hw : rs.length < 2 ^ 62) (hx : ∀ r ∈ rs, r.1.length < 2 ^ 62 ∧ r.2.length < 2 ^ 62) : Ret Tryd.prog G0 37 [⟨.ro, .agg [i64 n, ints ds]⟩, ⟨.ro, .one (rulesC rs)⟩] ⟨.one (.c (.bool (alphaOk n ds && sysOk n rs))), []⟩ := by
  unfold rulesC
  (refine ret_of_den (E := en 55 [] (fun _ => [(2, 0), (5, 0), (1, 1)])) tt_ok mixed Tryd.func37 rfl rfl rfl rfl ?_; refine ⟨by simp, ?_⟩)
  repeat' (first | (refine ⟨_, (by simp only [nf, nl, nm, en, ints, Nat.reduceAdd, Nat.reduceMul]; exact rfl), ?_⟩; conv => whnf) | (refine ⟨_, pick_at rfl (by first | exact Nat.le_of_ble_eq_true rfl | rfl | exact plain_i64 _ | exact plain_ints _ | exact all_ints _ | omega | (dsimp only; omega) | (simp; done) | (simp only [htf] at *; first | omega | (simp; omega))), ?_⟩; conv => whnf) | (refine ⟨_, rfl, ?_⟩; conv => whnf) | (first | refine iteP_true rfl ?_ | refine iteP_false rfl ?_ | refine iteP_true ‹_› ?_ | refine iteP_false ‹_› ?_; conv => whnf) | (refine And.intro (by kernel_rfl : indep _ _ = true) ?_; conv => whnf) | (refine And.intro (by rfl : List.all _ (noE _) = true) ?_; conv => whnf) | (refine And.intro (by first | exact Nat.le_of_ble_eq_true rfl | rfl | exact plain_i64 _ | exact plain_ints _ | exact all_ints _ | omega | (dsimp only; omega) | (simp; done) | (simp only [htf] at *; first | omega | (simp; omega))) ?_; conv => whnf) | (refine iteP_intro (fun hb => ?_) (fun hb => ?_) <;> (conv => whnf)))
  (refine ⟨_, l02Is_ret n ds hd, ?_⟩; conv => whnf)
  repeat' (first | (refine ⟨_, (by simp only [nf, nl, nm, en, ints, Nat.reduceAdd, Nat.reduceMul]; exact rfl), ?_⟩; conv => whnf) | (refine ⟨_, pick_at rfl (by first | exact Nat.le_of_ble_eq_true rfl | rfl | exact plain_i64 _ | exact plain_ints _ | exact all_ints _ | omega | (dsimp only; omega) | (simp; done) | (simp only [htf] at *; first | omega | (simp; omega))), ?_⟩; conv => whnf) | (refine ⟨_, rfl, ?_⟩; conv => whnf) | (first | refine iteP_true rfl ?_ | refine iteP_false rfl ?_ | refine iteP_true ‹_› ?_ | refine iteP_false ‹_› ?_; conv => whnf) | (refine And.intro (by kernel_rfl : indep _ _ = true) ?_; conv => whnf) | (refine And.intro (by rfl : List.all _ (noE _) = true) ?_; conv => whnf) | (refine And.intro (by first | exact Nat.le_of_ble_eq_true rfl | rfl | exact plain_i64 _ | exact plain_ints _ | exact all_ints _ | omega | (dsimp only; omega) | (simp; done) | (simp only [htf] at *; first | omega | (simp; omega))) ?_; conv => whnf) | (refine iteP_intro (fun hb => ?_) (fun hb => ?_) <;> (conv => whnf)))
  · refine endB ?_
    rw [show alphaOk n ds = false by simpa using hb]
    rfl
  · refine endB ?_
    unfold sysOk
    rw [decide_eq_false (by have := leT hb; omega)]
    simp
  · have ha : alphaOk n ds = true := by simpa using ‹(!alphaOk n ds) = false›
    have hn := alphaOk_n ha
    have hl : rs.length ≤ 12 := by have := leF hb; omega
    refine ⟨fun k vs => ∃ i : Nat, i ≤ rs.length ∧ (∀ r ∈ rs.take i, ruleOk n r = true) ∧ vs = [.one (.ptr [i64 n, .shd (ints ds)]), .one (i64 i), .one (.shd (.sl false 2 rs.length (rs.flatMap ruleC)))] ∧ k = rs.length - i, rfl, ⟨_, 0, by omega, by simp, rfl, rfl⟩, ?_⟩
    rintro k vs ⟨i, hi, hs, rfl, rfl⟩
    have bad : ∀ (hi' : i < rs.length), ruleOk n rs[i] = false → (alphaOk n ds && sysOk n rs) = false := fun hi' h => by
      unfold sysOk
      rw [show rs.all (ruleOk n) = false from List.all_eq_false.2 ⟨rs[i], List.getElem_mem _, by rw [h]; simp⟩]
      simp
    repeat (first | (refine ⟨_, (by simp only [nf, nl, nm, en, ints, Nat.reduceAdd, Nat.reduceMul]; exact rfl), ?_⟩; conv => whnf) | (refine ⟨_, pick_at rfl (by first | exact Nat.le_of_ble_eq_true rfl | rfl | exact plain_i64 _ | exact plain_ints _ | exact all_ints _ | omega | (dsimp only; omega) | (simp; done) | (simp only [htf] at *; first | omega | (simp; omega))), ?_⟩; conv => whnf) | (refine ⟨_, rfl, ?_⟩; conv => whnf) | (first | refine iteP_true rfl ?_ | refine iteP_false rfl ?_ | refine iteP_true ‹_› ?_ | refine iteP_false ‹_› ?_; conv => whnf) | (refine And.intro (by kernel_rfl : indep _ _ = true) ?_; conv => whnf) | (refine And.intro (by rfl : List.all _ (noE _) = true) ?_; conv => whnf) | (refine And.intro (by first | exact Nat.le_of_ble_eq_true rfl | rfl | exact plain_i64 _ | exact plain_ints _ | exact all_ints _ | omega | (dsimp only; omega) | (simp; done) | (simp only [htf] at *; first | omega | (simp; omega))) ?_; conv => whnf))
    refine iteP_intro (fun hb => ?_) (fun hb => ?_) <;> (conv => whnf)
    · have hi' := ltT hb
      obtain ⟨hr1, hr2⟩ := hx _ (List.getElem_mem hi')
      repeat (first | (refine ⟨_, (by simp only [nf, nl, nm, en, ints, Nat.reduceAdd, Nat.reduceMul]; exact rfl), ?_⟩; conv => whnf) | (refine ⟨_, pick_at rfl (by first | exact Nat.le_of_ble_eq_true rfl | rfl | exact plain_i64 _ | exact plain_ints _ | exact all_ints _ | omega | (dsimp only; omega) | (simp; done) | (simp only [htf] at *; first | omega | (simp; omega))), ?_⟩; conv => whnf) | (refine ⟨_, rfl, ?_⟩; conv => whnf) | (first | refine iteP_true rfl ?_ | refine iteP_false rfl ?_ | refine iteP_true ‹_› ?_ | refine iteP_false ‹_› ?_; conv => whnf) | (refine And.intro (by kernel_rfl : indep _ _ = true) ?_; conv => whnf) | (refine And.intro (by rfl : List.all _ (noE _) = true) ?_; conv => whnf) | (refine And.intro (by first | exact Nat.le_of_ble_eq_true rfl | rfl | exact plain_i64 _ | exact plain_ints _ | exact all_ints _ | omega | (dsimp only; omega) | (simp; done) | (simp only [htf] at *; first | omega | (simp; omega))) ?_; conv => whnf) | (refine And.intro (by rw [Int.toNat_natCast, rules_drop hi']; simp) ?_; conv => whnf) | (refine ⟨_, pick_ruleL rfl hi', ?_⟩; conv => whnf) | (refine ⟨_, pick_ruleR rfl hi', ?_⟩; conv => whnf))
      (refine ⟨_, l03Word_ret n rs[i].1 hr1 (by omega) (by omega), ?_⟩; conv => whnf)
      repeat' (first | (refine ⟨_, (by simp only [nf, nl, nm, en, ints, Nat.reduceAdd, Nat.reduceMul]; exact rfl), ?_⟩; conv => whnf) | (refine ⟨_, pick_at rfl (by first | exact Nat.le_of_ble_eq_true rfl | rfl | exact plain_i64 _ | exact plain_ints _ | exact all_ints _ | omega | (dsimp only; omega) | (simp; done) | (simp only [htf] at *; first | omega | (simp; omega))), ?_⟩; conv => whnf) | (refine ⟨_, rfl, ?_⟩; conv => whnf) | (first | refine iteP_true rfl ?_ | refine iteP_false rfl ?_ | refine iteP_true ‹_› ?_ | refine iteP_false ‹_› ?_; conv => whnf) | (refine And.intro (by kernel_rfl : indep _ _ = true) ?_; conv => whnf) | (refine And.intro (by rfl : List.all _ (noE _) = true) ?_; conv => whnf) | (refine And.intro (by first | exact Nat.le_of_ble_eq_true rfl | rfl | exact plain_i64 _ | exact plain_ints _ | exact all_ints _ | omega | (dsimp only; omega) | (simp; done) | (simp only [htf] at *; first | omega | (simp; omega))) ?_; conv => whnf) | (refine And.intro (by rw [Int.toNat_natCast, rules_drop hi']; simp) ?_; conv => whnf) | (refine ⟨_, pick_ruleL rfl hi', ?_⟩; conv => whnf) | (refine ⟨_, pick_ruleR rfl hi', ?_⟩; conv => whnf) | (refine iteP_intro (fun hb => ?_) (fun hb => ?_) <;> (conv => whnf)))
      · refine endB (bad hi' ?_).symm
        unfold ruleOk
        rw [show wordN n rs[i].1 = false by simpa using hb]
        rfl
      · have hb1 : wordN n rs[i].1 = true := by simpa using hb
        (refine ⟨_, l03Word_ret n rs[i].2 hr2 (by omega) (by omega), ?_⟩; conv => whnf)
        repeat' (first | (refine ⟨_, (by simp only [nf, nl, nm, en, ints, Nat.reduceAdd, Nat.reduceMul]; exact rfl), ?_⟩; conv => whnf) | (refine ⟨_, pick_at rfl (by first | exact Nat.le_of_ble_eq_true rfl | rfl | exact plain_i64 _ | exact plain_ints _ | exact all_ints _ | omega | (dsimp only; omega) | (simp; done) | (simp only [htf] at *; first | omega | (simp; omega))), ?_⟩; conv => whnf) | (refine ⟨_, rfl, ?_⟩; conv => whnf) | (first | refine iteP_true rfl ?_ | refine iteP_false rfl ?_ | refine iteP_true ‹_› ?_ | refine iteP_false ‹_› ?_; conv => whnf) | (refine And.intro (by kernel_rfl : indep _ _ = true) ?_; conv => whnf) | (refine And.intro (by rfl : List.all _ (noE _) = true) ?_; conv => whnf) | (refine And.intro (by first | exact Nat.le_of_ble_eq_true rfl | rfl | exact plain_i64 _ | exact plain_ints _ | exact all_ints _ | omega | (dsimp only; omega) | (simp; done) | (simp only [htf] at *; first | omega | (simp; omega))) ?_; conv => whnf) | (refine And.intro (by rw [Int.toNat_natCast, rules_drop hi']; simp) ?_; conv => whnf) | (refine ⟨_, pick_ruleL rfl hi', ?_⟩; conv => whnf) | (refine ⟨_, pick_ruleR rfl hi', ?_⟩; conv => whnf) | (refine iteP_intro (fun hb => ?_) (fun hb => ?_) <;> (conv => whnf)))
        · refine endB (bad hi' ?_).symm
          unfold ruleOk
          rw [show wordN n rs[i].2 = false by simpa using hb]
          simp
        · refine endB (bad hi' ?_).symm
          unfold ruleOk
          rw [hb]
          simp
        · refine ⟨_, ?_, i + 1, hi', fun r hd => ?_, by rw [wrap_succ (by omega)]; rfl, rfl⟩
          · omega
          · rw [List.take_succ_eq_append_getElem hi'] at hd
            rcases List.mem_append.1 hd with h | h
            · exact hs r h
            · obtain rfl := List.mem_singleton.1 h
              unfold ruleOk
              rw [hb1, show wordN n rs[i].2 = true by simpa using ‹(!wordN n rs[i].2) = false›, hb]
              rfl
    · repeat' (first | (refine ⟨_, (by simp only [nf, nl, nm, en, ints, Nat.reduceAdd, Nat.reduceMul]; exact rfl), ?_⟩; conv => whnf) | (refine ⟨_, pick_at rfl (by first | exact Nat.le_of_ble_eq_true rfl | rfl | exact plain_i64 _ | exact plain_ints _ | exact all_ints _ | omega | (dsimp only; omega) | (simp; done) | (simp only [htf] at *; first | omega | (simp; omega))), ?_⟩; conv => whnf) | (refine ⟨_, rfl, ?_⟩; conv => whnf) | (first | refine iteP_true rfl ?_ | refine iteP_false rfl ?_ | refine iteP_true ‹_› ?_ | refine iteP_false ‹_› ?_; conv => whnf) | (refine And.intro (by kernel_rfl : indep _ _ = true) ?_; conv => whnf) | (refine And.intro (by rfl : List.all _ (noE _) = true) ?_; conv => whnf) | (refine And.intro (by first | exact Nat.le_of_ble_eq_true rfl | rfl | exact plain_i64 _ | exact plain_ints _ | exact all_ints _ | omega | (dsimp only; omega) | (simp; done) | (simp only [htf] at *; first | omega | (simp; omega))) ?_; conv => whnf) | (refine iteP_intro (fun hb => ?_) (fun hb => ?_) <;> (conv => whnf)))
      obtain rfl : i = rs.length := Nat.le_antisymm hi (ltF hb)
      rw [List.take_length] at hs
      refine endB ?_
      unfold sysOk
      rw [ha, decide_eq_true hl, List.all_eq_true.2 hs]
      rfl
set_option maxHeartbeats 4000000 in
set_option maxRecDepth 100000 in
theorem isSysS_ret (n : Int) (ds : List Int) (rs : List (List Int × List Int)) (hd : ds.length < 2 ^ 62) (hw : rs.length < 2 ^ 62) (hx : ∀ r ∈ rs, r.1.length < 2 ^ 62 ∧ r.2.length < 2 ^ 62) : Ret Tryd.prog G0 16 [⟨.ro, .agg [i64 n, ints ds]⟩, ⟨.ro, .one (rulesC rs)⟩] ⟨.one (.c (.bool (alphaOk n ds && sysOk n rs))), []⟩ := by
  have h := l10Sys_ret n ds rs hd hw hx
  unfold rulesC at h ⊢
  (refine ret_of_den (E := en 8 [] (fun _ => [])) tt_ok mixed Tryd.func16 rfl rfl rfl rfl ?_; refine ⟨by simp, ?_⟩)
  repeat' (first | (refine ⟨_, (by simp only [nf, nl, nm, en, ints, Nat.reduceAdd, Nat.reduceMul]; exact rfl), ?_⟩; conv => whnf) | (refine ⟨_, pick_at rfl (by first | exact Nat.le_of_ble_eq_true rfl | rfl | exact plain_i64 _ | exact plain_ints _ | exact all_ints _ | omega | (dsimp only; omega) | (simp; done) | (simp only [htf] at *; first | omega | (simp; omega))), ?_⟩; conv => whnf) | (refine ⟨_, rfl, ?_⟩; conv => whnf) | (first | refine iteP_true rfl ?_ | refine iteP_false rfl ?_ | refine iteP_true ‹_› ?_ | refine iteP_false ‹_› ?_; conv => whnf) | (refine And.intro (by kernel_rfl : indep _ _ = true) ?_; conv => whnf) | (refine And.intro (by rfl : List.all _ (noE _) = true) ?_; conv => whnf) | (refine And.intro (by first | exact Nat.le_of_ble_eq_true rfl | rfl | exact plain_i64 _ | exact plain_ints _ | exact all_ints _ | omega | (dsimp only; omega) | (simp; done) | (simp only [htf] at *; first | omega | (simp; omega))) ?_; conv => whnf) | (refine iteP_intro (fun hb => ?_) (fun hb => ?_) <;> (conv => whnf)))
  (refine ⟨_, h, ?_⟩; conv => whnf)
  repeat' (first | (refine ⟨_, (by simp only [nf, nl, nm, en, ints, Nat.reduceAdd, Nat.reduceMul]; exact rfl), ?_⟩; conv => whnf) | (refine ⟨_, pick_at rfl (by first | exact Nat.le_of_ble_eq_true rfl | rfl | exact plain_i64 _ | exact plain_ints _ | exact all_ints _ | omega | (dsimp only; omega) | (simp; done) | (simp only [htf] at *; first | omega | (simp; omega))), ?_⟩; conv => whnf) | (refine ⟨_, rfl, ?_⟩; conv => whnf) | (first | refine iteP_true rfl ?_ | refine iteP_false rfl ?_ | refine iteP_true ‹_› ?_ | refine iteP_false ‹_› ?_; conv => whnf) | (refine And.intro (by kernel_rfl : indep _ _ = true) ?_; conv => whnf) | (refine And.intro (by rfl : List.all _ (noE _) = true) ?_; conv => whnf) | (refine And.intro (by first | exact Nat.le_of_ble_eq_true rfl | rfl | exact plain_i64 _ | exact plain_ints _ | exact all_ints _ | omega | (dsimp only; omega) | (simp; done) | (simp only [htf] at *; first | omega | (simp; omega))) ?_; conv => whnf) | (refine iteP_intro (fun hb => ?_) (fun hb => ?_) <;> (conv => whnf)))
  rfl
set_option maxHeartbeats 4000000 in
set_option maxRecDepth 100000 in
theorem toRule_ret (r : List Int × List Int) (h1 : r.1.length ≤ 2 ^ 20) (h2 : r.2.length ≤ 2 ^ 20) : Ret Tryd.prog G0 38 [⟨.ro, .agg [ints r.1, ints r.2]⟩] ⟨.agg [ints r.1, ints r.2], []⟩ := by
  (refine ret_of_den (E := en 13 [] (fun _ => [])) tt_ok mixed Tryd.func38 rfl rfl rfl rfl ?_; refine ⟨by simp, ?_⟩)
  repeat' (first | (refine ⟨_, (by simp only [nf, nl, nm, en, ints, Nat.reduceAdd, Nat.reduceMul]; exact rfl), ?_⟩; conv => whnf) | (refine ⟨_, pick_at rfl (by first | exact Nat.le_of_ble_eq_true rfl | rfl | exact plain_i64 _ | exact plain_ints _ | exact all_ints _ | omega | (dsimp only; omega) | (simp; done) | (simp only [htf] at *; first | omega | (simp; omega))), ?_⟩; conv => whnf) | (refine ⟨_, rfl, ?_⟩; conv => whnf) | (first | refine iteP_true rfl ?_ | refine iteP_false rfl ?_ | refine iteP_true ‹_› ?_ | refine iteP_false ‹_› ?_; conv => whnf) | (refine And.intro (by kernel_rfl : indep _ _ = true) ?_; conv => whnf) | (refine And.intro (by rfl : List.all _ (noE _) = true) ?_; conv => whnf) | (refine And.intro (by first | exact Nat.le_of_ble_eq_true rfl | rfl | exact plain_i64 _ | exact plain_ints _ | exact all_ints _ | omega | (dsimp only; omega) | (simp; done) | (simp only [htf] at *; first | omega | (simp; omega))) ?_; conv => whnf) | (refine iteP_intro (fun hb => ?_) (fun hb => ?_) <;> (conv => whnf)))
  (refine ⟨_, toInt_ret r.1 h1, ?_⟩; conv => whnf)
  repeat' (first | (refine ⟨_, (by simp only [nf, nl, nm, en, ints, Nat.reduceAdd, Nat.reduceMul]; exact rfl), ?_⟩; conv => whnf) | (refine ⟨_, pick_at rfl (by first | exact Nat.le_of_ble_eq_true rfl | rfl | exact plain_i64 _ | exact plain_ints _ | exact all_ints _ | omega | (dsimp only; omega) | (simp; done) | (simp only [htf] at *; first | omega | (simp; omega))), ?_⟩; conv => whnf) | (refine ⟨_, rfl, ?_⟩; conv => whnf) | (first | refine iteP_true rfl ?_ | refine iteP_false rfl ?_ | refine iteP_true ‹_› ?_ | refine iteP_false ‹_› ?_; conv => whnf) | (refine And.intro (by kernel_rfl : indep _ _ = true) ?_; conv => whnf) | (refine And.intro (by rfl : List.all _ (noE _) = true) ?_; conv => whnf) | (refine And.intro (by first | exact Nat.le_of_ble_eq_true rfl | rfl | exact plain_i64 _ | exact plain_ints _ | exact all_ints _ | omega | (dsimp only; omega) | (simp; done) | (simp only [htf] at *; first | omega | (simp; omega))) ?_; conv => whnf) | (refine iteP_intro (fun hb => ?_) (fun hb => ?_) <;> (conv => whnf)))
  (refine ⟨_, toInt_ret r.2 h2, ?_⟩; conv => whnf)
  repeat' (first | (refine ⟨_, (by simp only [nf, nl, nm, en, ints, Nat.reduceAdd, Nat.reduceMul]; exact rfl), ?_⟩; conv => whnf) | (refine ⟨_, pick_at rfl (by first | exact Nat.le_of_ble_eq_true rfl | rfl | exact plain_i64 _ | exact plain_ints _ | exact all_ints _ | omega | (dsimp only; omega) | (simp; done) | (simp only [htf] at *; first | omega | (simp; omega))), ?_⟩; conv => whnf) | (refine ⟨_, rfl, ?_⟩; conv => whnf) | (first | refine iteP_true rfl ?_ | refine iteP_false rfl ?_ | refine iteP_true ‹_› ?_ | refine iteP_false ‹_› ?_; conv => whnf) | (refine And.intro (by kernel_rfl : indep _ _ = true) ?_; conv => whnf) | (refine And.intro (by rfl : List.all _ (noE _) = true) ?_; conv => whnf) | (refine And.intro (by first | exact Nat.le_of_ble_eq_true rfl | rfl | exact plain_i64 _ | exact plain_ints _ | exact all_ints _ | omega | (dsimp only; omega) | (simp; done) | (simp only [htf] at *; first | omega | (simp; omega))) ?_; conv => whnf) | (refine iteP_intro (fun hb => ?_) (fun hb => ?_) <;> (conv => whnf)))
  rfl
set_option maxHeartbeats 4000000 in
set_option maxRecDepth 100000 in
theorem eqRule_ret (r : List Int × List Int) (h1 : r.1.length < 2 ^ 62) (h2 : r.2.length < 2 ^ 62) : Ret Tryd.prog G0 42 [⟨.ro, .agg [ints r.1, ints r.2]⟩, ⟨.ro, .agg [ints r.1, ints r.2]⟩] ⟨.one (.c (.bool true)), []⟩ := by
  (refine ret_of_den (E := en 17 [] (fun _ => [])) tt_ok mixed Tryd.func42 rfl rfl rfl rfl ?_; refine ⟨by simp, ?_⟩)
  have e1 : decide (r.1 = r.1) = true := by simp
  have e2 : decide (r.2 = r.2) = true := by simp
  repeat' (first | (refine ⟨_, (by simp only [nf, nl, nm, en, ints, Nat.reduceAdd, Nat.reduceMul]; exact rfl), ?_⟩; conv => whnf) | (refine ⟨_, pick_at rfl (by first | exact Nat.le_of_ble_eq_true rfl | rfl | exact plain_i64 _ | exact plain_ints _ | exact all_ints _ | omega | (dsimp only; omega) | (simp; done) | (simp only [htf] at *; first | omega | (simp; omega))), ?_⟩; conv => whnf) | (refine ⟨_, rfl, ?_⟩; conv => whnf) | (first | refine iteP_true rfl ?_ | refine iteP_false rfl ?_ | refine iteP_true ‹_› ?_ | refine iteP_false ‹_› ?_; conv => whnf) | (refine And.intro (by kernel_rfl : indep _ _ = true) ?_; conv => whnf) | (refine And.intro (by rfl : List.all _ (noE _) = true) ?_; conv => whnf) | (refine And.intro (by first | exact Nat.le_of_ble_eq_true rfl | rfl | exact plain_i64 _ | exact plain_ints _ | exact all_ints _ | omega | (dsimp only; omega) | (simp; done) | (simp only [htf] at *; first | omega | (simp; omega))) ?_; conv => whnf) | (refine iteP_intro (fun hb => ?_) (fun hb => ?_) <;> (conv => whnf)))
  (refine ⟨_, eq_ret r.1 r.1 h1, ?_⟩; conv => whnf)
  repeat' (first | (refine ⟨_, (by simp only [nf, nl, nm, en, ints, Nat.reduceAdd, Nat.reduceMul]; exact rfl), ?_⟩; conv => whnf) | (refine ⟨_, pick_at rfl (by first | exact Nat.le_of_ble_eq_true rfl | rfl | exact plain_i64 _ | exact plain_ints _ | exact all_ints _ | omega | (dsimp only; omega) | (simp; done) | (simp only [htf] at *; first | omega | (simp; omega))), ?_⟩; conv => whnf) | (refine ⟨_, rfl, ?_⟩; conv => whnf) | (first | refine iteP_true rfl ?_ | refine iteP_false rfl ?_ | refine iteP_true ‹_› ?_ | refine iteP_false ‹_› ?_; conv => whnf) | (refine And.intro (by kernel_rfl : indep _ _ = true) ?_; conv => whnf) | (refine And.intro (by rfl : List.all _ (noE _) = true) ?_; conv => whnf) | (refine And.intro (by first | exact Nat.le_of_ble_eq_true rfl | rfl | exact plain_i64 _ | exact plain_ints _ | exact all_ints _ | omega | (dsimp only; omega) | (simp; done) | (simp only [htf] at *; first | omega | (simp; omega))) ?_; conv => whnf) | (refine iteP_intro (fun hb => ?_) (fun hb => ?_) <;> (conv => whnf)))
  (refine ⟨_, eq_ret r.2 r.2 h2, ?_⟩; conv => whnf)
  repeat' (first | (refine ⟨_, (by simp only [nf, nl, nm, en, ints, Nat.reduceAdd, Nat.reduceMul]; exact rfl), ?_⟩; conv => whnf) | (refine ⟨_, pick_at rfl (by first | exact Nat.le_of_ble_eq_true rfl | rfl | exact plain_i64 _ | exact plain_ints _ | exact all_ints _ | omega | (dsimp only; omega) | (simp; done) | (simp only [htf] at *; first | omega | (simp; omega))), ?_⟩; conv => whnf) | (refine ⟨_, rfl, ?_⟩; conv => whnf) | (first | refine iteP_true rfl ?_ | refine iteP_false rfl ?_ | refine iteP_true ‹_› ?_ | refine iteP_false ‹_› ?_; conv => whnf) | (refine And.intro (by kernel_rfl : indep _ _ = true) ?_; conv => whnf) | (refine And.intro (by rfl : List.all _ (noE _) = true) ?_; conv => whnf) | (refine And.intro (by first | exact Nat.le_of_ble_eq_true rfl | rfl | exact plain_i64 _ | exact plain_ints _ | exact all_ints _ | omega | (dsimp only; omega) | (simp; done) | (simp only [htf] at *; first | omega | (simp; omega))) ?_; conv => whnf) | (refine iteP_intro (fun hb => ?_) (fun hb => ?_) <;> (conv => whnf)))
  rfl
set_option maxHeartbeats 4000000 in
set_option maxRecDepth 100000 in
theorem eqRules_ret (rs : List (List Int × List Int)) (hw : rs.length < 2 ^ 62) (hx : ∀ r ∈ rs, r.1.length < 2 ^ 62 ∧ r.2.length < 2 ^ 62) : Ret Tryd.prog G0 19 [⟨.ro, .one (rulesC rs)⟩, ⟨.ro, .one (rulesC rs)⟩] ⟨.one (.c (.bool true)), []⟩ := by
  unfold rulesC
  (refine ret_of_den (E := en 27 [] (fun _ => [(5, 0), (0, 1), (1, 1)])) tt_ok mixed Tryd.func19 rfl rfl rfl rfl ?_; refine ⟨by simp, ?_⟩)
  have e0 : ((rs.length : Int) != (rs.length : Int)) = false := by simp
  repeat' (first | (refine ⟨_, (by simp only [nf, nl, nm, en, ints, Nat.reduceAdd, Nat.reduceMul]; exact rfl), ?_⟩; conv => whnf) | (refine ⟨_, pick_at rfl (by first | exact Nat.le_of_ble_eq_true rfl | rfl | exact plain_i64 _ | exact plain_ints _ | exact all_ints _ | omega | (dsimp only; omega) | (simp; done) | (simp only [htf] at *; first | omega | (simp; omega))), ?_⟩; conv => whnf) | (refine ⟨_, rfl, ?_⟩; conv => whnf) | (first | refine iteP_true rfl ?_ | refine iteP_false rfl ?_ | refine iteP_true ‹_› ?_ | refine iteP_false ‹_› ?_; conv => whnf) | (refine And.intro (by kernel_rfl : indep _ _ = true) ?_; conv => whnf) | (refine And.intro (by rfl : List.all _ (noE _) = true) ?_; conv => whnf) | (refine And.intro (by first | exact Nat.le_of_ble_eq_true rfl | rfl | exact plain_i64 _ | exact plain_ints _ | exact all_ints _ | omega | (dsimp only; omega) | (simp; done) | (simp only [htf] at *; first | omega | (simp; omega))) ?_; conv => whnf) | (refine iteP_intro (fun hb => ?_) (fun hb => ?_) <;> (conv => whnf)))
  refine ⟨fun k vs => ∃ i : Nat, i ≤ rs.length ∧ vs = [.one (i64 i), .one (.shd (.sl false 2 rs.length (rs.flatMap ruleC))), .one (.shd (.sl false 2 rs.length (rs.flatMap ruleC)))] ∧ k = rs.length - i, rfl, ⟨_, 0, by omega, rfl, rfl⟩, ?_⟩
  rintro k vs ⟨i, hi, rfl, rfl⟩
  repeat (first | (refine ⟨_, (by simp only [nf, nl, nm, en, ints, Nat.reduceAdd, Nat.reduceMul]; exact rfl), ?_⟩; conv => whnf) | (refine ⟨_, pick_at rfl (by first | exact Nat.le_of_ble_eq_true rfl | rfl | exact plain_i64 _ | exact plain_ints _ | exact all_ints _ | omega | (dsimp only; omega) | (simp; done) | (simp only [htf] at *; first | omega | (simp; omega))), ?_⟩; conv => whnf) | (refine ⟨_, rfl, ?_⟩; conv => whnf) | (first | refine iteP_true rfl ?_ | refine iteP_false rfl ?_ | refine iteP_true ‹_› ?_ | refine iteP_false ‹_› ?_; conv => whnf) | (refine And.intro (by kernel_rfl : indep _ _ = true) ?_; conv => whnf) | (refine And.intro (by rfl : List.all _ (noE _) = true) ?_; conv => whnf) | (refine And.intro (by first | exact Nat.le_of_ble_eq_true rfl | rfl | exact plain_i64 _ | exact plain_ints _ | exact all_ints _ | omega | (dsimp only; omega) | (simp; done) | (simp only [htf] at *; first | omega | (simp; omega))) ?_; conv => whnf))
  refine iteP_intro (fun hb => ?_) (fun hb => ?_) <;> (conv => whnf)
  · have hi' := ltT hb
    repeat (first | (refine ⟨_, (by simp only [nf, nl, nm, en, ints, Nat.reduceAdd, Nat.reduceMul]; exact rfl), ?_⟩; conv => whnf) | (refine ⟨_, pick_at rfl (by first | exact Nat.le_of_ble_eq_true rfl | rfl | exact plain_i64 _ | exact plain_ints _ | exact all_ints _ | omega | (dsimp only; omega) | (simp; done) | (simp only [htf] at *; first | omega | (simp; omega))), ?_⟩; conv => whnf) | (refine ⟨_, rfl, ?_⟩; conv => whnf) | (first | refine iteP_true rfl ?_ | refine iteP_false rfl ?_ | refine iteP_true ‹_› ?_ | refine iteP_false ‹_› ?_; conv => whnf) | (refine And.intro (by kernel_rfl : indep _ _ = true) ?_; conv => whnf) | (refine And.intro (by rfl : List.all _ (noE _) = true) ?_; conv => whnf) | (refine And.intro (by first | exact Nat.le_of_ble_eq_true rfl | rfl | exact plain_i64 _ | exact plain_ints _ | exact all_ints _ | omega | (dsimp only; omega) | (simp; done) | (simp only [htf] at *; first | omega | (simp; omega))) ?_; conv => whnf) | (refine ⟨_, pick_rule rfl hi', ?_⟩; conv => whnf))
    (refine ⟨_, eqRule_ret rs[i] (hx _ (List.getElem_mem hi')).1 (hx _ (List.getElem_mem hi')).2, ?_⟩; conv => whnf)
    repeat' (first | (refine ⟨_, (by simp only [nf, nl, nm, en, ints, Nat.reduceAdd, Nat.reduceMul]; exact rfl), ?_⟩; conv => whnf) | (refine ⟨_, pick_at rfl (by first | exact Nat.le_of_ble_eq_true rfl | rfl | exact plain_i64 _ | exact plain_ints _ | exact all_ints _ | omega | (dsimp only; omega) | (simp; done) | (simp only [htf] at *; first | omega | (simp; omega))), ?_⟩; conv => whnf) | (refine ⟨_, rfl, ?_⟩; conv => whnf) | (first | refine iteP_true rfl ?_ | refine iteP_false rfl ?_ | refine iteP_true ‹_› ?_ | refine iteP_false ‹_› ?_; conv => whnf) | (refine And.intro (by kernel_rfl : indep _ _ = true) ?_; conv => whnf) | (refine And.intro (by rfl : List.all _ (noE _) = true) ?_; conv => whnf) | (refine And.intro (by first | exact Nat.le_of_ble_eq_true rfl | rfl | exact plain_i64 _ | exact plain_ints _ | exact all_ints _ | omega | (dsimp only; omega) | (simp; done) | (simp only [htf] at *; first | omega | (simp; omega))) ?_; conv => whnf) | (refine iteP_intro (fun hb => ?_) (fun hb => ?_) <;> (conv => whnf)))
    refine ⟨_, ?_, i + 1, hi', by rw [wrap_succ (by omega)]; rfl, rfl⟩
    omega
  · repeat' (first | (refine ⟨_, (by simp only [nf, nl, nm, en, ints, Nat.reduceAdd, Nat.reduceMul]; exact rfl), ?_⟩; conv => whnf) | (refine ⟨_, pick_at rfl (by first | exact Nat.le_of_ble_eq_true rfl | rfl | exact plain_i64 _ | exact plain_ints _ | exact all_ints _ | omega | (dsimp only; omega) | (simp; done) | (simp only [htf] at *; first | omega | (simp; omega))), ?_⟩; conv => whnf) | (refine ⟨_, rfl, ?_⟩; conv => whnf) | (first | refine iteP_true rfl ?_ | refine iteP_false rfl ?_ | refine iteP_true ‹_› ?_ | refine iteP_false ‹_› ?_; conv => whnf) | (refine And.intro (by kernel_rfl : indep _ _ = true) ?_; conv => whnf) | (refine And.intro (by rfl : List.all _ (noE _) = true) ?_; conv => whnf) | (refine And.intro (by first | exact Nat.le_of_ble_eq_true rfl | rfl | exact plain_i64 _ | exact plain_ints _ | exact all_ints _ | omega | (dsimp only; omega) | (simp; done) | (simp only [htf] at *; first | omega | (simp; omega))) ?_; conv => whnf) | (refine iteP_intro (fun hb => ?_) (fun hb => ?_) <;> (conv => whnf)))
    rfl
def nil2 : List Cell := [.c (.slice none 0 0), .c (.slice none 0 0)]
/-- The first i rules are copied. -/
def cpR (rs : List (List Int × List Int)) (i : Nat) : List Cell := (rs.take i).flatMap ruleC ++ (List.replicate (rs.length - i) nil2).flatten
theorem nil2_length (n : Nat) : ((List.replicate n nil2).flatten).length = 2 * n := by
  induction n with
  | zero => rfl
  | succ n ih => rw [List.replicate_succ, List.flatten_cons, List.length_append, ih]; simp [nil2]; omega
theorem cpR_length {rs : List (List Int × List Int)} {i : Nat} (h : i ≤ rs.length) : (cpR rs i).length = 2 * rs.length := by
  unfold cpR
  rw [List.length_append, rules_length, nil2_length, List.length_take]
  omega
theorem cpR_splice {rs : List (List Int × List Int)} {n : Int} {i : Nat} (hn : n = i) (hi : i < rs.length) : splice (cpR rs i) (n.toNat * 2) [ints rs[i].1, ints rs[i].2] = cpR rs (i + 1) := by
  subst hn
  have hl : ((rs.take i).flatMap ruleC).length = i * 2 := by rw [rules_length, List.length_take]; omega
  have e1 : rs.length - i = (rs.length - (i + 1)) + 1 := by omega
  unfold splice cpR
  rw [Int.toNat_natCast, e1, List.replicate_succ, List.flatten_cons, List.take_left' hl, show i * 2 + [ints rs[i].1, ints rs[i].2].length = i * 2 + 2 from rfl, ← List.drop_drop, List.drop_left' hl, List.take_succ_eq_append_getElem hi, List.flatMap_append]
  simp [ruleC, nil2]
theorem noNL_rules (q : Nat → Nat → Bool) (rs : List (List Int × List Int)) (k : Nat) : noNL q ((rs.flatMap ruleC).drop k) = true := by
  have h : ∀ xs : List Cell, (∀ x ∈ xs, noN q x = true) → noNL q xs = true := fun xs => by
    induction xs with
    | nil => intro _; rfl
    | cons x xs ih => intro h; simp only [noNL]; rw [h x (by simp), ih fun y hy => h y (by simp [hy])]; rfl
  refine h _ fun x hx => ?_
  obtain ⟨r, -, hr⟩ := List.mem_flatMap.1 (List.mem_of_mem_drop hx)
  simp only [ruleC, List.mem_cons, List.not_mem_nil, or_false] at hr
  rcases hr with rfl | rfl <;> rfl
theorem cpR_all (rs : List (List Int × List Int)) : cpR rs rs.length = rs.flatMap ruleC := by simp [cpR]
end Go.Proofs.YthlnahomjdcbeaaDoor
