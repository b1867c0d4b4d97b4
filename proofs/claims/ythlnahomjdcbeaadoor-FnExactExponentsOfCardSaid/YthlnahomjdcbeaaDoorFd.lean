import Derived.Test.YthlnahomjdcbeaaDoorFc
set_option autoImplicit false
set_option linter.unusedSimpArgs false
set_option linter.unusedVariables false
namespace Go.Proofs.YthlnahomjdcbeaaDoor
open Go.Den
set_option maxHeartbeats 4000000 in
set_option maxRecDepth 100000 in
theorem l02Is_ret (n : Int) (ds : List Int) (hx : ds.length < 2 ^ 62) : Ret Tryd.prog G0 52 [⟨.ro, .agg [i64 n, ints ds]⟩] ⟨.one (.c (.bool (alphaOk n ds))), []⟩ := by
  (refine ret_of_den (E := en 60 [] (fun | 4 => [(1, 0), (3, 0)] | 9 => [(1, 0), (3, 0), (4, 0)] | _ => [])) tt_ok mixed Tryd.func52 rfl rfl rfl rfl ?_; refine ⟨by simp, ?_⟩)
  repeat' (first | (refine ⟨_, (by simp only [nf, nl, nm, en, ints, Nat.reduceAdd, Nat.reduceMul]; exact rfl), ?_⟩; conv => whnf) | (refine ⟨_, pick_at rfl (by first | exact Nat.le_of_ble_eq_true rfl | rfl | exact plain_i64 _ | exact plain_ints _ | exact all_ints _ | omega | (dsimp only; omega) | (simp; done) | (simp only [htf] at *; first | omega | (simp; omega))), ?_⟩; conv => whnf) | (refine ⟨_, rfl, ?_⟩; conv => whnf) | (first | refine iteP_true rfl ?_ | refine iteP_false rfl ?_ | refine iteP_true ‹_› ?_ | refine iteP_false ‹_› ?_; conv => whnf) | (refine And.intro (by kernel_rfl : indep _ _ = true) ?_; conv => whnf) | (refine And.intro (by rfl : List.all _ (noE _) = true) ?_; conv => whnf) | (refine And.intro (by first | exact Nat.le_of_ble_eq_true rfl | rfl | exact plain_i64 _ | exact plain_ints _ | exact all_ints _ | omega | (dsimp only; omega) | (simp; done) | (simp only [htf] at *; first | omega | (simp; omega))) ?_; conv => whnf) | (refine iteP_intro (fun hb => ?_) (fun hb => ?_) <;> (conv => whnf)))
  (refine ⟨_, l01In_ret _ _ _, ?_⟩; conv => whnf)
  repeat' (first | (refine ⟨_, (by simp only [nf, nl, nm, en, ints, Nat.reduceAdd, Nat.reduceMul]; exact rfl), ?_⟩; conv => whnf) | (refine ⟨_, pick_at rfl (by first | exact Nat.le_of_ble_eq_true rfl | rfl | exact plain_i64 _ | exact plain_ints _ | exact all_ints _ | omega | (dsimp only; omega) | (simp; done) | (simp only [htf] at *; first | omega | (simp; omega))), ?_⟩; conv => whnf) | (refine ⟨_, rfl, ?_⟩; conv => whnf) | (first | refine iteP_true rfl ?_ | refine iteP_false rfl ?_ | refine iteP_true ‹_› ?_ | refine iteP_false ‹_› ?_; conv => whnf) | (refine And.intro (by kernel_rfl : indep _ _ = true) ?_; conv => whnf) | (refine And.intro (by rfl : List.all _ (noE _) = true) ?_; conv => whnf) | (refine And.intro (by first | exact Nat.le_of_ble_eq_true rfl | rfl | exact plain_i64 _ | exact plain_ints _ | exact all_ints _ | omega | (dsimp only; omega) | (simp; done) | (simp only [htf] at *; first | omega | (simp; omega))) ?_; conv => whnf) | (refine iteP_intro (fun hb => ?_) (fun hb => ?_) <;> (conv => whnf)))
  · refine endB ?_
    unfold alphaOk
    rw [show decide (0 ≤ n ∧ n ≤ 8) = false by cases h : decide (0 ≤ n ∧ n ≤ 8) with | false => rfl | true => rw [h] at hb; cases hb]
    rfl
  · refine endB ?_
    unfold alphaOk
    rw [decide_eq_false (show ¬ (ds.length : Int) = n from neT hb)]
    simp
  · have hin : 0 ≤ n ∧ n ≤ 8 := by simpa using ‹(!decide (0 ≤ n ∧ n ≤ 8)) = false›
    have hln : (ds.length : Int) = n := neF hb
    subst hln
    (refine ⟨_, l01Masks_ret ds.length ds (by omega) hx, ?_⟩; conv => whnf)
    repeat (first | (refine ⟨_, (by simp only [nf, nl, nm, en, ints, Nat.reduceAdd, Nat.reduceMul]; exact rfl), ?_⟩; conv => whnf) | (refine ⟨_, pick_at rfl (by first | exact Nat.le_of_ble_eq_true rfl | rfl | exact plain_i64 _ | exact plain_ints _ | exact all_ints _ | omega | (dsimp only; omega) | (simp; done) | (simp only [htf] at *; first | omega | (simp; omega))), ?_⟩; conv => whnf) | (refine ⟨_, rfl, ?_⟩; conv => whnf) | (first | refine iteP_true rfl ?_ | refine iteP_false rfl ?_ | refine iteP_true ‹_› ?_ | refine iteP_false ‹_› ?_; conv => whnf) | (refine And.intro (by kernel_rfl : indep _ _ = true) ?_; conv => whnf) | (refine And.intro (by rfl : List.all _ (noE _) = true) ?_; conv => whnf) | (refine And.intro (by first | exact Nat.le_of_ble_eq_true rfl | rfl | exact plain_i64 _ | exact plain_ints _ | exact all_ints _ | omega | (dsimp only; omega) | (simp; done) | (simp only [htf] at *; first | omega | (simp; omega))) ?_; conv => whnf))
    refine iteP_intro (fun hr => ?_) (fun hr => ?_) <;> (conv => whnf)
    · repeat' (first | (refine ⟨_, (by simp only [nf, nl, nm, en, ints, Nat.reduceAdd, Nat.reduceMul]; exact rfl), ?_⟩; conv => whnf) | (refine ⟨_, pick_at rfl (by first | exact Nat.le_of_ble_eq_true rfl | rfl | exact plain_i64 _ | exact plain_ints _ | exact all_ints _ | omega | (dsimp only; omega) | (simp; done) | (simp only [htf] at *; first | omega | (simp; omega))), ?_⟩; conv => whnf) | (refine ⟨_, rfl, ?_⟩; conv => whnf) | (first | refine iteP_true rfl ?_ | refine iteP_false rfl ?_ | refine iteP_true ‹_› ?_ | refine iteP_false ‹_› ?_; conv => whnf) | (refine And.intro (by kernel_rfl : indep _ _ = true) ?_; conv => whnf) | (refine And.intro (by rfl : List.all _ (noE _) = true) ?_; conv => whnf) | (refine And.intro (by first | exact Nat.le_of_ble_eq_true rfl | rfl | exact plain_i64 _ | exact plain_ints _ | exact all_ints _ | omega | (dsimp only; omega) | (simp; done) | (simp only [htf] at *; first | omega | (simp; omega))) ?_; conv => whnf) | (refine iteP_intro (fun hb => ?_) (fun hb => ?_) <;> (conv => whnf)))
      refine endB ?_
      have : relOk ds = false := by
        unfold relOk
        rw [show ((2 : Int) ^ ds.length) = ((2 ^ ds.length : Nat) : Int) by simp]
        rw [Bool.not_eq_true'] at hr
        rw [hr, Bool.and_false]
      unfold alphaOk
      rw [this]
      simp
    · have hrel : relOk ds = true := by
        unfold relOk
        rw [show ((2 : Int) ^ ds.length) = ((2 ^ ds.length : Nat) : Int) by simp]
        rw [Bool.not_eq_false'] at hr
        rw [hr, decide_eq_true (by omega)]
        rfl
      obtain ⟨hds, hm⟩ := rel_nat hrel
      generalize hms : ds.map Int.toNat = ms at hds hm
      have hl : ms.length = ds.length := by rw [← hms, List.length_map]
      have hfin : ∀ b, symOk ms = b → alphaOk (ds.length : Int) ds = b := fun b hb => by
        unfold alphaOk
        rw [decide_eq_true hin, hrel, hms, hb]
        simp
      repeat (first | (refine ⟨_, (by simp only [nf, nl, nm, en, ints, Nat.reduceAdd, Nat.reduceMul]; exact rfl), ?_⟩; conv => whnf) | (refine ⟨_, pick_at rfl (by first | exact Nat.le_of_ble_eq_true rfl | rfl | exact plain_i64 _ | exact plain_ints _ | exact all_ints _ | omega | (dsimp only; omega) | (simp; done) | (simp only [htf] at *; first | omega | (simp; omega))), ?_⟩; conv => whnf) | (refine ⟨_, rfl, ?_⟩; conv => whnf) | (first | refine iteP_true rfl ?_ | refine iteP_false rfl ?_ | refine iteP_true ‹_› ?_ | refine iteP_false ‹_› ?_; conv => whnf) | (refine And.intro (by kernel_rfl : indep _ _ = true) ?_; conv => whnf) | (refine And.intro (by rfl : List.all _ (noE _) = true) ?_; conv => whnf) | (refine And.intro (by first | exact Nat.le_of_ble_eq_true rfl | rfl | exact plain_i64 _ | exact plain_ints _ | exact all_ints _ | omega | (dsimp only; omega) | (simp; done) | (simp only [htf] at *; first | omega | (simp; omega))) ?_; conv => whnf))
      subst hds
      have hm63 : ∀ (a : Nat) (h : a < ms.length), ms[a] < 2 ^ 63 := fun a h => Nat.lt_of_lt_of_le (hm _ (List.getElem_mem h)) (Nat.pow_le_pow_right (by decide) (by omega))
      have hgd : ∀ (a : Nat) (h : a < ms.length), ms.getD a 0 = ms[a] := fun a h => by rw [List.getD_eq_getElem?_getD, List.getElem?_eq_getElem h, Option.getD_some]
      refine ⟨fun k vs => ∃ i : Nat, i ≤ ms.length ∧ (∀ a < i, (ms.getD a 0).testBit a = true ∧ ∀ b < ms.length, (ms.getD a 0).testBit b = (ms.getD b 0).testBit a) ∧
          vs = [.one (.ptr [i64 (natI ms).length, .shd (ints (natI ms))]), .one (i64 i)] ∧ k = ms.length - i, rfl, ⟨_, 0, by omega, by simp, rfl, rfl⟩, ?_⟩
      rintro k vs ⟨i, hi, hs, rfl, rfl⟩
      repeat (first | (refine ⟨_, (by simp only [nf, nl, nm, en, ints, Nat.reduceAdd, Nat.reduceMul]; exact rfl), ?_⟩; conv => whnf) | (refine ⟨_, pick_at rfl (by first | exact Nat.le_of_ble_eq_true rfl | rfl | exact plain_i64 _ | exact plain_ints _ | exact all_ints _ | omega | (dsimp only; omega) | (simp; done) | (simp only [htf] at *; first | omega | (simp; omega))), ?_⟩; conv => whnf) | (refine ⟨_, rfl, ?_⟩; conv => whnf) | (first | refine iteP_true rfl ?_ | refine iteP_false rfl ?_ | refine iteP_true ‹_› ?_ | refine iteP_false ‹_› ?_; conv => whnf) | (refine And.intro (by kernel_rfl : indep _ _ = true) ?_; conv => whnf) | (refine And.intro (by rfl : List.all _ (noE _) = true) ?_; conv => whnf) | (refine And.intro (by first | exact Nat.le_of_ble_eq_true rfl | rfl | exact plain_i64 _ | exact plain_ints _ | exact all_ints _ | omega | (dsimp only; omega) | (simp; done) | (simp only [htf] at *; first | omega | (simp; omega))) ?_; conv => whnf))
      refine iteP_intro (fun hb => ?_) (fun hb => ?_) <;> (conv => whnf)
      · have hi' : i < ms.length := by have := leT hb; omega
        have hg2 : (natI ms)[i]'(by omega) = ((ms[i] : Nat) : Int) := natI_get _
        repeat (first | (refine ⟨_, (by simp only [nf, nl, nm, en, ints, Nat.reduceAdd, Nat.reduceMul, hg2]; exact rfl), ?_⟩; conv => whnf) | (refine ⟨_, pick_at rfl (by first | exact Nat.le_of_ble_eq_true rfl | rfl | exact plain_i64 _ | exact plain_ints _ | exact all_ints _ | omega | (dsimp only; omega) | (simp; done) | (simp only [htf] at *; first | omega | (simp; omega))), ?_⟩; conv => whnf) | (refine ⟨_, rfl, ?_⟩; conv => whnf) | (first | refine iteP_true rfl ?_ | refine iteP_false rfl ?_ | refine iteP_true ‹_› ?_ | refine iteP_false ‹_› ?_; conv => whnf) | (refine And.intro (by kernel_rfl : indep _ _ = true) ?_; conv => whnf) | (refine And.intro (by rfl : List.all _ (noE _) = true) ?_; conv => whnf) | (refine And.intro (by first | exact Nat.le_of_ble_eq_true rfl | rfl | exact plain_i64 _ | exact plain_ints _ | exact all_ints _ | omega | (dsimp only; omega) | (simp; done) | (simp only [htf] at *; first | omega | (simp; omega))) ?_; conv => whnf))
        (refine ⟨_, l01Bit_ret ms[i] i (hm63 i hi') (by omega), ?_⟩; conv => whnf)
        repeat (first | (refine ⟨_, (by simp only [nf, nl, nm, en, ints, Nat.reduceAdd, Nat.reduceMul]; exact rfl), ?_⟩; conv => whnf) | (refine ⟨_, pick_at rfl (by first | exact Nat.le_of_ble_eq_true rfl | rfl | exact plain_i64 _ | exact plain_ints _ | exact all_ints _ | omega | (dsimp only; omega) | (simp; done) | (simp only [htf] at *; first | omega | (simp; omega))), ?_⟩; conv => whnf) | (refine ⟨_, rfl, ?_⟩; conv => whnf) | (first | refine iteP_true rfl ?_ | refine iteP_false rfl ?_ | refine iteP_true ‹_› ?_ | refine iteP_false ‹_› ?_; conv => whnf) | (refine And.intro (by kernel_rfl : indep _ _ = true) ?_; conv => whnf) | (refine And.intro (by rfl : List.all _ (noE _) = true) ?_; conv => whnf) | (refine And.intro (by first | exact Nat.le_of_ble_eq_true rfl | rfl | exact plain_i64 _ | exact plain_ints _ | exact all_ints _ | omega | (dsimp only; omega) | (simp; done) | (simp only [htf] at *; first | omega | (simp; omega))) ?_; conv => whnf))
        refine iteP_intro (fun hh => ?_) (fun hh => ?_) <;> (conv => whnf)
        · repeat' (first | (refine ⟨_, (by simp only [nf, nl, nm, en, ints, Nat.reduceAdd, Nat.reduceMul]; exact rfl), ?_⟩; conv => whnf) | (refine ⟨_, pick_at rfl (by first | exact Nat.le_of_ble_eq_true rfl | rfl | exact plain_i64 _ | exact plain_ints _ | exact all_ints _ | omega | (dsimp only; omega) | (simp; done) | (simp only [htf] at *; first | omega | (simp; omega))), ?_⟩; conv => whnf) | (refine ⟨_, rfl, ?_⟩; conv => whnf) | (first | refine iteP_true rfl ?_ | refine iteP_false rfl ?_ | refine iteP_true ‹_› ?_ | refine iteP_false ‹_› ?_; conv => whnf) | (refine And.intro (by kernel_rfl : indep _ _ = true) ?_; conv => whnf) | (refine And.intro (by rfl : List.all _ (noE _) = true) ?_; conv => whnf) | (refine And.intro (by first | exact Nat.le_of_ble_eq_true rfl | rfl | exact plain_i64 _ | exact plain_ints _ | exact all_ints _ | omega | (dsimp only; omega) | (simp; done) | (simp only [htf] at *; first | omega | (simp; omega))) ?_; conv => whnf) | (refine iteP_intro (fun hb => ?_) (fun hb => ?_) <;> (conv => whnf)))
          refine endB (hfin false ?_).symm
          rw [Bool.eq_false_iff]
          intro h
          have := (symOk_iff.1 h i hi').1
          rw [hgd i hi'] at this
          rw [this] at hh
          cases hh
        · repeat (first | (refine ⟨_, (by simp only [nf, nl, nm, en, ints, Nat.reduceAdd, Nat.reduceMul]; exact rfl), ?_⟩; conv => whnf) | (refine ⟨_, pick_at rfl (by first | exact Nat.le_of_ble_eq_true rfl | rfl | exact plain_i64 _ | exact plain_ints _ | exact all_ints _ | omega | (dsimp only; omega) | (simp; done) | (simp only [htf] at *; first | omega | (simp; omega))), ?_⟩; conv => whnf) | (refine ⟨_, rfl, ?_⟩; conv => whnf) | (first | refine iteP_true rfl ?_ | refine iteP_false rfl ?_ | refine iteP_true ‹_› ?_ | refine iteP_false ‹_› ?_; conv => whnf) | (refine And.intro (by kernel_rfl : indep _ _ = true) ?_; conv => whnf) | (refine And.intro (by rfl : List.all _ (noE _) = true) ?_; conv => whnf) | (refine And.intro (by first | exact Nat.le_of_ble_eq_true rfl | rfl | exact plain_i64 _ | exact plain_ints _ | exact all_ints _ | omega | (dsimp only; omega) | (simp; done) | (simp only [htf] at *; first | omega | (simp; omega))) ?_; conv => whnf))
          refine ⟨fun k vs => ∃ j : Nat, j ≤ ms.length ∧ (∀ b < j, (ms.getD i 0).testBit b = (ms.getD b 0).testBit i) ∧
              vs = [.one (.ptr [i64 (natI ms).length, .shd (ints (natI ms))]), .one (i64 i), .one (i64 j)] ∧ k = ms.length - j, rfl, ⟨_, 0, by omega, by simp, rfl, rfl⟩, ?_⟩
          rintro k vs ⟨j, hj, hsj, rfl, rfl⟩
          repeat (first | (refine ⟨_, (by simp only [nf, nl, nm, en, ints, Nat.reduceAdd, Nat.reduceMul]; exact rfl), ?_⟩; conv => whnf) | (refine ⟨_, pick_at rfl (by first | exact Nat.le_of_ble_eq_true rfl | rfl | exact plain_i64 _ | exact plain_ints _ | exact all_ints _ | omega | (dsimp only; omega) | (simp; done) | (simp only [htf] at *; first | omega | (simp; omega))), ?_⟩; conv => whnf) | (refine ⟨_, rfl, ?_⟩; conv => whnf) | (first | refine iteP_true rfl ?_ | refine iteP_false rfl ?_ | refine iteP_true ‹_› ?_ | refine iteP_false ‹_› ?_; conv => whnf) | (refine And.intro (by kernel_rfl : indep _ _ = true) ?_; conv => whnf) | (refine And.intro (by rfl : List.all _ (noE _) = true) ?_; conv => whnf) | (refine And.intro (by first | exact Nat.le_of_ble_eq_true rfl | rfl | exact plain_i64 _ | exact plain_ints _ | exact all_ints _ | omega | (dsimp only; omega) | (simp; done) | (simp only [htf] at *; first | omega | (simp; omega))) ?_; conv => whnf))
          refine iteP_intro (fun hb => ?_) (fun hb => ?_) <;> (conv => whnf)
          · have hj' : j < ms.length := by have := leT hb; omega
            have hg3 : (natI ms)[j]'(by omega) = ((ms[j] : Nat) : Int) := natI_get _
            repeat (first | (refine ⟨_, (by simp only [nf, nl, nm, en, ints, Nat.reduceAdd, Nat.reduceMul, hg2, hg3]; exact rfl), ?_⟩; conv => whnf) | (refine ⟨_, pick_at rfl (by first | exact Nat.le_of_ble_eq_true rfl | rfl | exact plain_i64 _ | exact plain_ints _ | exact all_ints _ | omega | (dsimp only; omega) | (simp; done) | (simp only [htf] at *; first | omega | (simp; omega))), ?_⟩; conv => whnf) | (refine ⟨_, rfl, ?_⟩; conv => whnf) | (first | refine iteP_true rfl ?_ | refine iteP_false rfl ?_ | refine iteP_true ‹_› ?_ | refine iteP_false ‹_› ?_; conv => whnf) | (refine And.intro (by kernel_rfl : indep _ _ = true) ?_; conv => whnf) | (refine And.intro (by rfl : List.all _ (noE _) = true) ?_; conv => whnf) | (refine And.intro (by first | exact Nat.le_of_ble_eq_true rfl | rfl | exact plain_i64 _ | exact plain_ints _ | exact all_ints _ | omega | (dsimp only; omega) | (simp; done) | (simp only [htf] at *; first | omega | (simp; omega))) ?_; conv => whnf))
            (refine ⟨_, l01Bit_ret ms[i] j (hm63 i hi') (by omega), ?_⟩; conv => whnf)
            repeat (first | (refine ⟨_, (by simp only [nf, nl, nm, en, ints, Nat.reduceAdd, Nat.reduceMul, hg2, hg3]; exact rfl), ?_⟩; conv => whnf) | (refine ⟨_, pick_at rfl (by first | exact Nat.le_of_ble_eq_true rfl | rfl | exact plain_i64 _ | exact plain_ints _ | exact all_ints _ | omega | (dsimp only; omega) | (simp; done) | (simp only [htf] at *; first | omega | (simp; omega))), ?_⟩; conv => whnf) | (refine ⟨_, rfl, ?_⟩; conv => whnf) | (first | refine iteP_true rfl ?_ | refine iteP_false rfl ?_ | refine iteP_true ‹_› ?_ | refine iteP_false ‹_› ?_; conv => whnf) | (refine And.intro (by kernel_rfl : indep _ _ = true) ?_; conv => whnf) | (refine And.intro (by rfl : List.all _ (noE _) = true) ?_; conv => whnf) | (refine And.intro (by first | exact Nat.le_of_ble_eq_true rfl | rfl | exact plain_i64 _ | exact plain_ints _ | exact all_ints _ | omega | (dsimp only; omega) | (simp; done) | (simp only [htf] at *; first | omega | (simp; omega))) ?_; conv => whnf))
            (refine ⟨_, l01Bit_ret ms[j] i (hm63 j hj') (by omega), ?_⟩; conv => whnf)
            repeat (first | (refine ⟨_, (by simp only [nf, nl, nm, en, ints, Nat.reduceAdd, Nat.reduceMul, hg2, hg3]; exact rfl), ?_⟩; conv => whnf) | (refine ⟨_, pick_at rfl (by first | exact Nat.le_of_ble_eq_true rfl | rfl | exact plain_i64 _ | exact plain_ints _ | exact all_ints _ | omega | (dsimp only; omega) | (simp; done) | (simp only [htf] at *; first | omega | (simp; omega))), ?_⟩; conv => whnf) | (refine ⟨_, rfl, ?_⟩; conv => whnf) | (first | refine iteP_true rfl ?_ | refine iteP_false rfl ?_ | refine iteP_true ‹_› ?_ | refine iteP_false ‹_› ?_; conv => whnf) | (refine And.intro (by kernel_rfl : indep _ _ = true) ?_; conv => whnf) | (refine And.intro (by rfl : List.all _ (noE _) = true) ?_; conv => whnf) | (refine And.intro (by first | exact Nat.le_of_ble_eq_true rfl | rfl | exact plain_i64 _ | exact plain_ints _ | exact all_ints _ | omega | (dsimp only; omega) | (simp; done) | (simp only [htf] at *; first | omega | (simp; omega))) ?_; conv => whnf))
            refine iteP_intro (fun hc => ?_) (fun hc => ?_) <;> (conv => whnf)
            · repeat' (first | (refine ⟨_, (by simp only [nf, nl, nm, en, ints, Nat.reduceAdd, Nat.reduceMul]; exact rfl), ?_⟩; conv => whnf) | (refine ⟨_, pick_at rfl (by first | exact Nat.le_of_ble_eq_true rfl | rfl | exact plain_i64 _ | exact plain_ints _ | exact all_ints _ | omega | (dsimp only; omega) | (simp; done) | (simp only [htf] at *; first | omega | (simp; omega))), ?_⟩; conv => whnf) | (refine ⟨_, rfl, ?_⟩; conv => whnf) | (first | refine iteP_true rfl ?_ | refine iteP_false rfl ?_ | refine iteP_true ‹_› ?_ | refine iteP_false ‹_› ?_; conv => whnf) | (refine And.intro (by kernel_rfl : indep _ _ = true) ?_; conv => whnf) | (refine And.intro (by rfl : List.all _ (noE _) = true) ?_; conv => whnf) | (refine And.intro (by first | exact Nat.le_of_ble_eq_true rfl | rfl | exact plain_i64 _ | exact plain_ints _ | exact all_ints _ | omega | (dsimp only; omega) | (simp; done) | (simp only [htf] at *; first | omega | (simp; omega))) ?_; conv => whnf) | (refine iteP_intro (fun hb => ?_) (fun hb => ?_) <;> (conv => whnf)))
              refine endB (hfin false ?_).symm
              rw [Bool.eq_false_iff]
              intro h
              have := (symOk_iff.1 h i hi').2 j hj'
              rw [hgd i hi', hgd j hj'] at this
              rw [this] at hc
              simp at hc
            · repeat (first | (refine ⟨_, (by simp only [nf, nl, nm, en, ints, Nat.reduceAdd, Nat.reduceMul]; exact rfl), ?_⟩; conv => whnf) | (refine ⟨_, pick_at rfl (by first | exact Nat.le_of_ble_eq_true rfl | rfl | exact plain_i64 _ | exact plain_ints _ | exact all_ints _ | omega | (dsimp only; omega) | (simp; done) | (simp only [htf] at *; first | omega | (simp; omega))), ?_⟩; conv => whnf) | (refine ⟨_, rfl, ?_⟩; conv => whnf) | (first | refine iteP_true rfl ?_ | refine iteP_false rfl ?_ | refine iteP_true ‹_› ?_ | refine iteP_false ‹_› ?_; conv => whnf) | (refine And.intro (by kernel_rfl : indep _ _ = true) ?_; conv => whnf) | (refine And.intro (by rfl : List.all _ (noE _) = true) ?_; conv => whnf) | (refine And.intro (by first | exact Nat.le_of_ble_eq_true rfl | rfl | exact plain_i64 _ | exact plain_ints _ | exact all_ints _ | omega | (dsimp only; omega) | (simp; done) | (simp only [htf] at *; first | omega | (simp; omega))) ?_; conv => whnf))
              refine ⟨_, ?_, j + 1, hj', fun b hb => ?_, by rw [wrap_succ (by omega)]; rfl, rfl⟩
              · omega
              · rcases Nat.lt_succ_iff_lt_or_eq.1 hb with h | rfl
                · exact hsj b h
                · rw [hgd i hi', hgd b hj']
                  simpa using hc
          · obtain rfl : j = ms.length := by have := leF hb; omega
            repeat (first | (refine ⟨_, (by simp only [nf, nl, nm, en, ints, Nat.reduceAdd, Nat.reduceMul]; exact rfl), ?_⟩; conv => whnf) | (refine ⟨_, pick_at rfl (by first | exact Nat.le_of_ble_eq_true rfl | rfl | exact plain_i64 _ | exact plain_ints _ | exact all_ints _ | omega | (dsimp only; omega) | (simp; done) | (simp only [htf] at *; first | omega | (simp; omega))), ?_⟩; conv => whnf) | (refine ⟨_, rfl, ?_⟩; conv => whnf) | (first | refine iteP_true rfl ?_ | refine iteP_false rfl ?_ | refine iteP_true ‹_› ?_ | refine iteP_false ‹_› ?_; conv => whnf) | (refine And.intro (by kernel_rfl : indep _ _ = true) ?_; conv => whnf) | (refine And.intro (by rfl : List.all _ (noE _) = true) ?_; conv => whnf) | (refine And.intro (by first | exact Nat.le_of_ble_eq_true rfl | rfl | exact plain_i64 _ | exact plain_ints _ | exact all_ints _ | omega | (dsimp only; omega) | (simp; done) | (simp only [htf] at *; first | omega | (simp; omega))) ?_; conv => whnf))
            refine ⟨_, ?_, i + 1, hi', fun a ha => ?_, by rw [wrap_succ (by omega)]; rfl, rfl⟩
            · omega
            · rcases Nat.lt_succ_iff_lt_or_eq.1 ha with h | rfl
              · exact hs a h
              · exact ⟨by rw [hgd a hi']; simpa using hh, hsj⟩
      · obtain rfl : i = ms.length := by have := leF hb; omega
        repeat' (first | (refine ⟨_, (by simp only [nf, nl, nm, en, ints, Nat.reduceAdd, Nat.reduceMul]; exact rfl), ?_⟩; conv => whnf) | (refine ⟨_, pick_at rfl (by first | exact Nat.le_of_ble_eq_true rfl | rfl | exact plain_i64 _ | exact plain_ints _ | exact all_ints _ | omega | (dsimp only; omega) | (simp; done) | (simp only [htf] at *; first | omega | (simp; omega))), ?_⟩; conv => whnf) | (refine ⟨_, rfl, ?_⟩; conv => whnf) | (first | refine iteP_true rfl ?_ | refine iteP_false rfl ?_ | refine iteP_true ‹_› ?_ | refine iteP_false ‹_› ?_; conv => whnf) | (refine And.intro (by kernel_rfl : indep _ _ = true) ?_; conv => whnf) | (refine And.intro (by rfl : List.all _ (noE _) = true) ?_; conv => whnf) | (refine And.intro (by first | exact Nat.le_of_ble_eq_true rfl | rfl | exact plain_i64 _ | exact plain_ints _ | exact all_ints _ | omega | (dsimp only; omega) | (simp; done) | (simp only [htf] at *; first | omega | (simp; omega))) ?_; conv => whnf) | (refine iteP_intro (fun hb => ?_) (fun hb => ?_) <;> (conv => whnf)))
        exact endB (hfin true (symOk_iff.2 hs)).symm
set_option maxHeartbeats 4000000 in
set_option maxRecDepth 100000 in
theorem l09Word_ret (n : Int) (xs : List Int) (hx : xs.length < 2 ^ 62) (h0 : 0 ≤ n) (hn : n < 2 ^ 62) : Ret Tryd.prog G0 55 [⟨.ro, .one (i64 n)⟩, ⟨.ro, .one (ints xs)⟩] ⟨.one (.c (.bool (signedN n xs))), []⟩ := by
  (refine ret_of_den (E := en 31 [] (fun _ => [(5, 0), (0, 0), (1, 1)])) tt_ok mixed Tryd.func55 rfl rfl rfl rfl ?_; refine ⟨by simp, ?_⟩)
  have hw : IntKind.i64.wrap (0 - n) = -n := by rw [wrap_i64 (by omega) (by omega)]; omega
  repeat' (first | (refine ⟨_, (by simp only [nf, nl, nm, en, ints, Nat.reduceAdd, Nat.reduceMul, hw]; exact rfl), ?_⟩; conv => whnf) | (refine ⟨_, pick_at rfl (by first | exact Nat.le_of_ble_eq_true rfl | rfl | exact plain_i64 _ | exact plain_ints _ | exact all_ints _ | omega | (dsimp only; omega) | (simp; done) | (simp only [htf] at *; first | omega | (simp; omega))), ?_⟩; conv => whnf) | (refine ⟨_, rfl, ?_⟩; conv => whnf) | (first | refine iteP_true rfl ?_ | refine iteP_false rfl ?_ | refine iteP_true ‹_› ?_ | refine iteP_false ‹_› ?_; conv => whnf) | (refine And.intro (by kernel_rfl : indep _ _ = true) ?_; conv => whnf) | (refine And.intro (by rfl : List.all _ (noE _) = true) ?_; conv => whnf) | (refine And.intro (by first | exact Nat.le_of_ble_eq_true rfl | rfl | exact plain_i64 _ | exact plain_ints _ | exact all_ints _ | omega | (dsimp only; omega) | (simp; done) | (simp only [htf] at *; first | omega | (simp; omega))) ?_; conv => whnf) | (refine iteP_intro (fun hb => ?_) (fun hb => ?_) <;> (conv => whnf)))
  · refine endB ?_
    unfold signedN
    rw [decide_eq_false (by have := leT hb; omega)]
    rfl
  have hl : xs.length ≤ 24 := by have := leF hb; omega
  refine ⟨fun k vs => ∃ i : Nat, i ≤ xs.length ∧ (∀ x ∈ xs.take i, (-n ≤ x ∧ x ≤ n) ∧ 0 ≠ x) ∧ vs = [.one (i64 i), .one (i64 n), .one (.shd (ints xs))] ∧ k = xs.length - i, rfl, ⟨_, 0, by omega, by simp, rfl, rfl⟩, ?_⟩
  rintro k vs ⟨i, hi, hs, rfl, rfl⟩
  have bad : ∀ (hi' : i < xs.length), ¬ ((-n ≤ xs[i] ∧ xs[i] ≤ n) ∧ 0 ≠ xs[i]) → signedN n xs = false := fun hi' h => by
    unfold signedN
    by_cases h1 : -n ≤ xs[i] ∧ xs[i] ≤ n
    · have : xs.any (0 == ·) = true := List.any_eq_true.2 ⟨xs[i], List.getElem_mem _, by simp; omega⟩
      rw [this]
      simp
    · have : (xs.all fun x => decide (-n ≤ x ∧ x ≤ n)) = false := List.all_eq_false.2 ⟨xs[i], List.getElem_mem _, by rw [decide_eq_false h1]; simp⟩
      rw [this]
      simp
  repeat (first | (refine ⟨_, (by simp only [nf, nl, nm, en, ints, Nat.reduceAdd, Nat.reduceMul, hw]; exact rfl), ?_⟩; conv => whnf) | (refine ⟨_, pick_at rfl (by first | exact Nat.le_of_ble_eq_true rfl | rfl | exact plain_i64 _ | exact plain_ints _ | exact all_ints _ | omega | (dsimp only; omega) | (simp; done) | (simp only [htf] at *; first | omega | (simp; omega))), ?_⟩; conv => whnf) | (refine ⟨_, rfl, ?_⟩; conv => whnf) | (first | refine iteP_true rfl ?_ | refine iteP_false rfl ?_ | refine iteP_true ‹_› ?_ | refine iteP_false ‹_› ?_; conv => whnf) | (refine And.intro (by kernel_rfl : indep _ _ = true) ?_; conv => whnf) | (refine And.intro (by rfl : List.all _ (noE _) = true) ?_; conv => whnf) | (refine And.intro (by first | exact Nat.le_of_ble_eq_true rfl | rfl | exact plain_i64 _ | exact plain_ints _ | exact all_ints _ | omega | (dsimp only; omega) | (simp; done) | (simp only [htf] at *; first | omega | (simp; omega))) ?_; conv => whnf))
  refine iteP_intro (fun hb => ?_) (fun hb => ?_) <;> (conv => whnf)
  · have hi' : i < xs.length := ltT hb
    repeat' (first | (refine ⟨_, (by simp only [nf, nl, nm, en, ints, Nat.reduceAdd, Nat.reduceMul, hw]; exact rfl), ?_⟩; conv => whnf) | (refine ⟨_, pick_at rfl (by first | exact Nat.le_of_ble_eq_true rfl | rfl | exact plain_i64 _ | exact plain_ints _ | exact all_ints _ | omega | (dsimp only; omega) | (simp; done) | (simp only [htf] at *; first | omega | (simp; omega))), ?_⟩; conv => whnf) | (refine ⟨_, rfl, ?_⟩; conv => whnf) | (first | refine iteP_true rfl ?_ | refine iteP_false rfl ?_ | refine iteP_true ‹_› ?_ | refine iteP_false ‹_› ?_; conv => whnf) | (refine And.intro (by kernel_rfl : indep _ _ = true) ?_; conv => whnf) | (refine And.intro (by rfl : List.all _ (noE _) = true) ?_; conv => whnf) | (refine And.intro (by first | exact Nat.le_of_ble_eq_true rfl | rfl | exact plain_i64 _ | exact plain_ints _ | exact all_ints _ | omega | (dsimp only; omega) | (simp; done) | (simp only [htf] at *; first | omega | (simp; omega))) ?_; conv => whnf) | (refine iteP_intro (fun hb => ?_) (fun hb => ?_) <;> (conv => whnf)))
    · exact endB (bad hi' (fun h => h.2 (eqT hb).symm)).symm
    · (refine ⟨_, l01In_ret _ _ _, ?_⟩; conv => whnf)
      repeat' (first | (refine ⟨_, (by simp only [nf, nl, nm, en, ints, Nat.reduceAdd, Nat.reduceMul, hw]; exact rfl), ?_⟩; conv => whnf) | (refine ⟨_, pick_at rfl (by first | exact Nat.le_of_ble_eq_true rfl | rfl | exact plain_i64 _ | exact plain_ints _ | exact all_ints _ | omega | (dsimp only; omega) | (simp; done) | (simp only [htf] at *; first | omega | (simp; omega))), ?_⟩; conv => whnf) | (refine ⟨_, rfl, ?_⟩; conv => whnf) | (first | refine iteP_true rfl ?_ | refine iteP_false rfl ?_ | refine iteP_true ‹_› ?_ | refine iteP_false ‹_› ?_; conv => whnf) | (refine And.intro (by kernel_rfl : indep _ _ = true) ?_; conv => whnf) | (refine And.intro (by rfl : List.all _ (noE _) = true) ?_; conv => whnf) | (refine And.intro (by first | exact Nat.le_of_ble_eq_true rfl | rfl | exact plain_i64 _ | exact plain_ints _ | exact all_ints _ | omega | (dsimp only; omega) | (simp; done) | (simp only [htf] at *; first | omega | (simp; omega))) ?_; conv => whnf) | (refine iteP_intro (fun hb => ?_) (fun hb => ?_) <;> (conv => whnf)))
      · refine endB (bad hi' fun h => ?_).symm
        rw [decide_eq_true h.1] at hb
        cases hb
      · refine ⟨_, ?_, i + 1, hi', fun x hd => ?_, by rw [wrap_succ (by omega)]; rfl, rfl⟩
        · omega
        · rw [List.take_succ_eq_append_getElem hi'] at hd
          rcases List.mem_append.1 hd with h | h
          · exact hs x h
          · obtain rfl := List.mem_singleton.1 h
            refine ⟨?_, fun e => ?_⟩
            · simpa using hb
            · exact eqF ‹(xs[i] == 0) = false› e.symm
  · repeat' (first | (refine ⟨_, (by simp only [nf, nl, nm, en, ints, Nat.reduceAdd, Nat.reduceMul]; exact rfl), ?_⟩; conv => whnf) | (refine ⟨_, pick_at rfl (by first | exact Nat.le_of_ble_eq_true rfl | rfl | exact plain_i64 _ | exact plain_ints _ | exact all_ints _ | omega | (dsimp only; omega) | (simp; done) | (simp only [htf] at *; first | omega | (simp; omega))), ?_⟩; conv => whnf) | (refine ⟨_, rfl, ?_⟩; conv => whnf) | (first | refine iteP_true rfl ?_ | refine iteP_false rfl ?_ | refine iteP_true ‹_› ?_ | refine iteP_false ‹_› ?_; conv => whnf) | (refine And.intro (by kernel_rfl : indep _ _ = true) ?_; conv => whnf) | (refine And.intro (by rfl : List.all _ (noE _) = true) ?_; conv => whnf) | (refine And.intro (by first | exact Nat.le_of_ble_eq_true rfl | rfl | exact plain_i64 _ | exact plain_ints _ | exact all_ints _ | omega | (dsimp only; omega) | (simp; done) | (simp only [htf] at *; first | omega | (simp; omega))) ?_; conv => whnf) | (refine iteP_intro (fun hb => ?_) (fun hb => ?_) <;> (conv => whnf)))
    obtain rfl : i = xs.length := Nat.le_antisymm hi (ltF hb)
    rw [List.take_length] at hs
    refine endB ?_
    unfold signedN
    rw [decide_eq_true hl, List.all_eq_true.2 fun x hx => decide_eq_true (hs x hx).1, List.any_eq_false.2 fun x hx => by simpa using (hs x hx).2]
    rfl
/-- The code for an alphabet and words. -/
def wcode (a ok : Bool) : Int := if a then (if ok then 0 else 2) else 1
abbrev wordsC (ws : List (List Int)) : Cell := .sl false 1 ws.length (ws.map ints)
theorem alphaOk_n {n : Int} {ds : List Int} (h : alphaOk n ds = true) : 0 ≤ n ∧ n ≤ 8 ∧ (ds.length : Int) = n := by
  unfold alphaOk at h
  simp only [Bool.and_eq_true, decide_eq_true_eq] at h
  exact ⟨h.1.1.1.1, h.1.1.1.2, h.1.1.2⟩
set_option maxHeartbeats 4000000 in
set_option maxRecDepth 100000 in
theorem l09Code_ret (n : Int) (ds u v : List Int) (hd : ds.length < 2 ^ 62) (hu : u.length < 2 ^ 62) (hv : v.length < 2 ^ 62) : Ret Tryd.prog G0 43 [⟨.ro, .agg [i64 n, ints ds]⟩, ⟨.ro, .one (ints u)⟩, ⟨.ro, .one (ints v)⟩] ⟨.one (i64 (wcode (alphaOk n ds) (signedN n u && signedN n v))), []⟩ := by
  (refine ret_of_den (E := en 22 [] (fun _ => [])) tt_ok mixed Tryd.func43 rfl rfl rfl rfl ?_; refine ⟨by simp, ?_⟩)
  repeat' (first | (refine ⟨_, (by simp only [nf, nl, nm, en, ints, Nat.reduceAdd, Nat.reduceMul]; exact rfl), ?_⟩; conv => whnf) | (refine ⟨_, pick_at rfl (by first | exact Nat.le_of_ble_eq_true rfl | rfl | exact plain_i64 _ | exact plain_ints _ | exact all_ints _ | omega | (dsimp only; omega) | (simp; done) | (simp only [htf] at *; first | omega | (simp; omega))), ?_⟩; conv => whnf) | (refine ⟨_, rfl, ?_⟩; conv => whnf) | (first | refine iteP_true rfl ?_ | refine iteP_false rfl ?_ | refine iteP_true ‹_› ?_ | refine iteP_false ‹_› ?_; conv => whnf) | (refine And.intro (by kernel_rfl : indep _ _ = true) ?_; conv => whnf) | (refine And.intro (by rfl : List.all _ (noE _) = true) ?_; conv => whnf) | (refine And.intro (by first | exact Nat.le_of_ble_eq_true rfl | rfl | exact plain_i64 _ | exact plain_ints _ | exact all_ints _ | omega | (dsimp only; omega) | (simp; done) | (simp only [htf] at *; first | omega | (simp; omega))) ?_; conv => whnf) | (refine iteP_intro (fun hb => ?_) (fun hb => ?_) <;> (conv => whnf)))
  (refine ⟨_, l02Is_ret n ds hd, ?_⟩; conv => whnf)
  repeat' (first | (refine ⟨_, (by simp only [nf, nl, nm, en, ints, Nat.reduceAdd, Nat.reduceMul]; exact rfl), ?_⟩; conv => whnf) | (refine ⟨_, pick_at rfl (by first | exact Nat.le_of_ble_eq_true rfl | rfl | exact plain_i64 _ | exact plain_ints _ | exact all_ints _ | omega | (dsimp only; omega) | (simp; done) | (simp only [htf] at *; first | omega | (simp; omega))), ?_⟩; conv => whnf) | (refine ⟨_, rfl, ?_⟩; conv => whnf) | (first | refine iteP_true rfl ?_ | refine iteP_false rfl ?_ | refine iteP_true ‹_› ?_ | refine iteP_false ‹_› ?_; conv => whnf) | (refine And.intro (by kernel_rfl : indep _ _ = true) ?_; conv => whnf) | (refine And.intro (by rfl : List.all _ (noE _) = true) ?_; conv => whnf) | (refine And.intro (by first | exact Nat.le_of_ble_eq_true rfl | rfl | exact plain_i64 _ | exact plain_ints _ | exact all_ints _ | omega | (dsimp only; omega) | (simp; done) | (simp only [htf] at *; first | omega | (simp; omega))) ?_; conv => whnf) | (refine iteP_intro (fun hb => ?_) (fun hb => ?_) <;> (conv => whnf)))
  · refine endI ?_
    unfold wcode
    rw [if_neg (by simpa using hb)]
  · have ha : alphaOk n ds = true := by simpa using hb
    have hn := alphaOk_n ha
    (refine ⟨_, l09Word_ret n u hu (by omega) (by omega), ?_⟩; conv => whnf)
    repeat' (first | (refine ⟨_, (by simp only [nf, nl, nm, en, ints, Nat.reduceAdd, Nat.reduceMul]; exact rfl), ?_⟩; conv => whnf) | (refine ⟨_, pick_at rfl (by first | exact Nat.le_of_ble_eq_true rfl | rfl | exact plain_i64 _ | exact plain_ints _ | exact all_ints _ | omega | (dsimp only; omega) | (simp; done) | (simp only [htf] at *; first | omega | (simp; omega))), ?_⟩; conv => whnf) | (refine ⟨_, rfl, ?_⟩; conv => whnf) | (first | refine iteP_true rfl ?_ | refine iteP_false rfl ?_ | refine iteP_true ‹_› ?_ | refine iteP_false ‹_› ?_; conv => whnf) | (refine And.intro (by kernel_rfl : indep _ _ = true) ?_; conv => whnf) | (refine And.intro (by rfl : List.all _ (noE _) = true) ?_; conv => whnf) | (refine And.intro (by first | exact Nat.le_of_ble_eq_true rfl | rfl | exact plain_i64 _ | exact plain_ints _ | exact all_ints _ | omega | (dsimp only; omega) | (simp; done) | (simp only [htf] at *; first | omega | (simp; omega))) ?_; conv => whnf) | (refine iteP_intro (fun hb => ?_) (fun hb => ?_) <;> (conv => whnf)))
    · refine endI ?_
      unfold wcode
      rw [if_pos ha, if_neg (by simp [by simpa using hb])]
    · (refine ⟨_, l09Word_ret n v hv (by omega) (by omega), ?_⟩; conv => whnf)
      repeat' (first | (refine ⟨_, (by simp only [nf, nl, nm, en, ints, Nat.reduceAdd, Nat.reduceMul]; exact rfl), ?_⟩; conv => whnf) | (refine ⟨_, pick_at rfl (by first | exact Nat.le_of_ble_eq_true rfl | rfl | exact plain_i64 _ | exact plain_ints _ | exact all_ints _ | omega | (dsimp only; omega) | (simp; done) | (simp only [htf] at *; first | omega | (simp; omega))), ?_⟩; conv => whnf) | (refine ⟨_, rfl, ?_⟩; conv => whnf) | (first | refine iteP_true rfl ?_ | refine iteP_false rfl ?_ | refine iteP_true ‹_› ?_ | refine iteP_false ‹_› ?_; conv => whnf) | (refine And.intro (by kernel_rfl : indep _ _ = true) ?_; conv => whnf) | (refine And.intro (by rfl : List.all _ (noE _) = true) ?_; conv => whnf) | (refine And.intro (by first | exact Nat.le_of_ble_eq_true rfl | rfl | exact plain_i64 _ | exact plain_ints _ | exact all_ints _ | omega | (dsimp only; omega) | (simp; done) | (simp only [htf] at *; first | omega | (simp; omega))) ?_; conv => whnf) | (refine iteP_intro (fun hb => ?_) (fun hb => ?_) <;> (conv => whnf)))
      · refine endI ?_
        unfold wcode
        rw [if_pos ha, if_neg (by simp [by simpa using hb])]
      · refine endI ?_
        unfold wcode
        have h1 : signedN n u = true := by simpa using ‹(!signedN n u) = false›
        have h2 : signedN n v = true := by simpa using hb
        rw [if_pos ha, if_pos (by rw [h1, h2]; rfl)]
set_option maxHeartbeats 4000000 in
set_option maxRecDepth 100000 in
theorem checkS1_ret (n : Int) (ds w : List Int) (hx : w.length < 2 ^ 62) (h0 : 0 ≤ n) (hn : n < 2 ^ 62) : Ret Tryd.prog G0 65 [⟨.ro, .one (ints w)⟩, ⟨.ro, .one (.ptr [i64 n, ints ds])⟩] ⟨.one (.c (.bool (!signedN n w))), []⟩ := by
  (refine ret_of_den (E := en 8 [] (fun _ => [])) tt_ok mixed Tryd.func65 rfl rfl rfl rfl ?_; refine ⟨by simp, ?_⟩)
  repeat' (first | (refine ⟨_, (by simp only [nf, nl, nm, en, ints, Nat.reduceAdd, Nat.reduceMul]; exact rfl), ?_⟩; conv => whnf) | (refine ⟨_, pick_at rfl (by first | exact Nat.le_of_ble_eq_true rfl | rfl | exact plain_i64 _ | exact plain_ints _ | exact all_ints _ | omega | (dsimp only; omega) | (simp; done) | (simp only [htf] at *; first | omega | (simp; omega))), ?_⟩; conv => whnf) | (refine ⟨_, rfl, ?_⟩; conv => whnf) | (first | refine iteP_true rfl ?_ | refine iteP_false rfl ?_ | refine iteP_true ‹_› ?_ | refine iteP_false ‹_› ?_; conv => whnf) | (refine And.intro (by kernel_rfl : indep _ _ = true) ?_; conv => whnf) | (refine And.intro (by rfl : List.all _ (noE _) = true) ?_; conv => whnf) | (refine And.intro (by first | exact Nat.le_of_ble_eq_true rfl | rfl | exact plain_i64 _ | exact plain_ints _ | exact all_ints _ | omega | (dsimp only; omega) | (simp; done) | (simp only [htf] at *; first | omega | (simp; omega))) ?_; conv => whnf) | (refine iteP_intro (fun hb => ?_) (fun hb => ?_) <;> (conv => whnf)))
  (refine ⟨_, isSigned_ret n w ds hx h0 hn, ?_⟩; conv => whnf)
  repeat' (first | (refine ⟨_, (by simp only [nf, nl, nm, en, ints, Nat.reduceAdd, Nat.reduceMul]; exact rfl), ?_⟩; conv => whnf) | (refine ⟨_, pick_at rfl (by first | exact Nat.le_of_ble_eq_true rfl | rfl | exact plain_i64 _ | exact plain_ints _ | exact all_ints _ | omega | (dsimp only; omega) | (simp; done) | (simp only [htf] at *; first | omega | (simp; omega))), ?_⟩; conv => whnf) | (refine ⟨_, rfl, ?_⟩; conv => whnf) | (first | refine iteP_true rfl ?_ | refine iteP_false rfl ?_ | refine iteP_true ‹_› ?_ | refine iteP_false ‹_› ?_; conv => whnf) | (refine And.intro (by kernel_rfl : indep _ _ = true) ?_; conv => whnf) | (refine And.intro (by rfl : List.all _ (noE _) = true) ?_; conv => whnf) | (refine And.intro (by first | exact Nat.le_of_ble_eq_true rfl | rfl | exact plain_i64 _ | exact plain_ints _ | exact all_ints _ | omega | (dsimp only; omega) | (simp; done) | (simp only [htf] at *; first | omega | (simp; omega))) ?_; conv => whnf) | (refine iteP_intro (fun hb => ?_) (fun hb => ?_) <;> (conv => whnf)))
  rfl
set_option maxHeartbeats 4000000 in
set_option maxRecDepth 100000 in
theorem indexFS_ret (n : Int) (ds : List Int) (ws : List (List Int)) (hw : ws.length < 2 ^ 62) (hx : ∀ w ∈ ws, w.length < 2 ^ 62) (h0 : 0 ≤ n) (hn : n < 2 ^ 62) : Ret Tryd.prog G0 81 [⟨.ro, .one (wordsC ws)⟩, ⟨.ro, .one (.fn (.func 65) [.ptr [i64 n, ints ds]])⟩] ⟨.one (i64 (findI (fun w => !signedN n w) ws 0)), []⟩ := by
  (refine ret_of_den (E := en 19 [] (fun _ => [(7, 0), (8, 0), (0, 1), (1, 1)])) tt_ok mixed Tryd.func81 rfl rfl rfl rfl ?_; refine ⟨by simp, ?_⟩)
  repeat' (first | (refine ⟨_, (by simp only [nf, nl, nm, en, ints, Nat.reduceAdd, Nat.reduceMul]; exact rfl), ?_⟩; conv => whnf) | (refine ⟨_, pick_at rfl (by first | exact Nat.le_of_ble_eq_true rfl | rfl | exact plain_i64 _ | exact plain_ints _ | exact all_ints _ | omega | (dsimp only; omega) | (simp; done) | (simp only [htf] at *; first | omega | (simp; omega))), ?_⟩; conv => whnf) | (refine ⟨_, rfl, ?_⟩; conv => whnf) | (first | refine iteP_true rfl ?_ | refine iteP_false rfl ?_ | refine iteP_true ‹_› ?_ | refine iteP_false ‹_› ?_; conv => whnf) | (refine And.intro (by kernel_rfl : indep _ _ = true) ?_; conv => whnf) | (refine And.intro (by rfl : List.all _ (noE _) = true) ?_; conv => whnf) | (refine And.intro (by first | exact Nat.le_of_ble_eq_true rfl | rfl | exact plain_i64 _ | exact plain_ints _ | exact all_ints _ | omega | (dsimp only; omega) | (simp; done) | (simp only [htf] at *; first | omega | (simp; omega))) ?_; conv => whnf) | (refine iteP_intro (fun hb => ?_) (fun hb => ?_) <;> (conv => whnf)))
  refine ⟨fun k vs => ∃ i : Nat, i ≤ ws.length ∧ findI (fun w => !signedN n w) ws 0 = findI (fun w => !signedN n w) (ws.drop i) i ∧ vs = [.one (i64 ws.length), .one (i64 i), .one (.shd (wordsC ws)), .one (.shd (.fn (.func 65) [.ptr [i64 n, ints ds]]))] ∧ k = ws.length - i, rfl, ?_, ?_⟩
  · exact ⟨_, 0, by omega, by simp, rfl, rfl⟩
  · rintro k vs ⟨i, hi, hf, rfl, rfl⟩
    repeat (first | (refine ⟨_, (by simp only [nf, nl, nm, en, ints, Nat.reduceAdd, Nat.reduceMul]; exact rfl), ?_⟩; conv => whnf) | (refine ⟨_, pick_at rfl (by first | exact Nat.le_of_ble_eq_true rfl | rfl | exact plain_i64 _ | exact plain_ints _ | exact all_ints _ | omega | (dsimp only; omega) | (simp; done) | (simp only [htf] at *; first | omega | (simp; omega))), ?_⟩; conv => whnf) | (refine ⟨_, rfl, ?_⟩; conv => whnf) | (first | refine iteP_true rfl ?_ | refine iteP_false rfl ?_ | refine iteP_true ‹_› ?_ | refine iteP_false ‹_› ?_; conv => whnf) | (refine And.intro (by kernel_rfl : indep _ _ = true) ?_; conv => whnf) | (refine And.intro (by rfl : List.all _ (noE _) = true) ?_; conv => whnf) | (refine And.intro (by first | exact Nat.le_of_ble_eq_true rfl | rfl | exact plain_i64 _ | exact plain_ints _ | exact all_ints _ | omega | (dsimp only; omega) | (simp; done) | (simp only [htf] at *; first | omega | (simp; omega))) ?_; conv => whnf))
    refine iteP_intro (fun hb => ?_) (fun hb => ?_) <;> (conv => whnf)
    · have hi' := ltT hb
      repeat (first | (refine ⟨_, (by simp only [nf, nl, nm, en, ints, Nat.reduceAdd, Nat.reduceMul]; exact rfl), ?_⟩; conv => whnf) | (refine ⟨_, pick_at rfl (by first | exact Nat.le_of_ble_eq_true rfl | rfl | exact plain_i64 _ | exact plain_ints _ | exact all_ints _ | omega | (dsimp only; omega) | (simp; done) | (simp only [htf] at *; first | omega | (simp; omega))), ?_⟩; conv => whnf) | (refine ⟨_, rfl, ?_⟩; conv => whnf) | (first | refine iteP_true rfl ?_ | refine iteP_false rfl ?_ | refine iteP_true ‹_› ?_ | refine iteP_false ‹_› ?_; conv => whnf) | (refine And.intro (by kernel_rfl : indep _ _ = true) ?_; conv => whnf) | (refine And.intro (by rfl : List.all _ (noE _) = true) ?_; conv => whnf) | (refine And.intro (by first | exact Nat.le_of_ble_eq_true rfl | rfl | exact plain_i64 _ | exact plain_ints _ | exact all_ints _ | omega | (dsimp only; omega) | (simp; done) | (simp only [htf] at *; first | omega | (simp; omega))) ?_; conv => whnf))
      (refine ⟨_, checkS1_ret n ds _ (hx _ (List.getElem_mem hi')) h0 hn, ?_⟩; conv => whnf)
      repeat' (first | (refine ⟨_, (by simp only [nf, nl, nm, en, ints, Nat.reduceAdd, Nat.reduceMul]; exact rfl), ?_⟩; conv => whnf) | (refine ⟨_, pick_at rfl (by first | exact Nat.le_of_ble_eq_true rfl | rfl | exact plain_i64 _ | exact plain_ints _ | exact all_ints _ | omega | (dsimp only; omega) | (simp; done) | (simp only [htf] at *; first | omega | (simp; omega))), ?_⟩; conv => whnf) | (refine ⟨_, rfl, ?_⟩; conv => whnf) | (first | refine iteP_true rfl ?_ | refine iteP_false rfl ?_ | refine iteP_true ‹_› ?_ | refine iteP_false ‹_› ?_; conv => whnf) | (refine And.intro (by kernel_rfl : indep _ _ = true) ?_; conv => whnf) | (refine And.intro (by rfl : List.all _ (noE _) = true) ?_; conv => whnf) | (refine And.intro (by first | exact Nat.le_of_ble_eq_true rfl | rfl | exact plain_i64 _ | exact plain_ints _ | exact all_ints _ | omega | (dsimp only; omega) | (simp; done) | (simp only [htf] at *; first | omega | (simp; omega))) ?_; conv => whnf) | (refine iteP_intro (fun hb => ?_) (fun hb => ?_) <;> (conv => whnf)))
      · refine endI ?_
        rw [hf, findI_T hi' hb]
      · refine ⟨_, ?_, i + 1, hi', ?_, by rw [wrap_succ (by omega)]; rfl, rfl⟩
        · omega
        · rw [hf, findI_F hi' hb]
    · repeat' (first | (refine ⟨_, (by simp only [nf, nl, nm, en, ints, Nat.reduceAdd, Nat.reduceMul]; exact rfl), ?_⟩; conv => whnf) | (refine ⟨_, pick_at rfl (by first | exact Nat.le_of_ble_eq_true rfl | rfl | exact plain_i64 _ | exact plain_ints _ | exact all_ints _ | omega | (dsimp only; omega) | (simp; done) | (simp only [htf] at *; first | omega | (simp; omega))), ?_⟩; conv => whnf) | (refine ⟨_, rfl, ?_⟩; conv => whnf) | (first | refine iteP_true rfl ?_ | refine iteP_false rfl ?_ | refine iteP_true ‹_› ?_ | refine iteP_false ‹_› ?_; conv => whnf) | (refine And.intro (by kernel_rfl : indep _ _ = true) ?_; conv => whnf) | (refine And.intro (by rfl : List.all _ (noE _) = true) ?_; conv => whnf) | (refine And.intro (by first | exact Nat.le_of_ble_eq_true rfl | rfl | exact plain_i64 _ | exact plain_ints _ | exact all_ints _ | omega | (dsimp only; omega) | (simp; done) | (simp only [htf] at *; first | omega | (simp; omega))) ?_; conv => whnf) | (refine iteP_intro (fun hb => ?_) (fun hb => ?_) <;> (conv => whnf)))
      obtain rfl : i = ws.length := Nat.le_antisymm hi (ltF hb)
      refine endI ?_
      rw [hf]; simp [findI]
set_option maxHeartbeats 4000000 in
set_option maxRecDepth 100000 in
theorem containsFS_ret (n : Int) (ds : List Int) (ws : List (List Int)) (hw : ws.length < 2 ^ 62) (hx : ∀ w ∈ ws, w.length < 2 ^ 62) (h0 : 0 ≤ n) (hn : n < 2 ^ 62) : Ret Tryd.prog G0 64 [⟨.ro, .one (wordsC ws)⟩, ⟨.ro, .one (.fn (.func 65) [.ptr [i64 n, ints ds]])⟩] ⟨.one (.c (.bool (ws.any fun w => !signedN n w))), []⟩ := by
  (refine ret_of_den (E := en 9 [] (fun _ => [])) tt_ok mixed Tryd.func64 rfl rfl rfl rfl ?_; refine ⟨by simp, ?_⟩)
  repeat' (first | (refine ⟨_, (by simp only [nf, nl, nm, en, ints, Nat.reduceAdd, Nat.reduceMul]; exact rfl), ?_⟩; conv => whnf) | (refine ⟨_, pick_at rfl (by first | exact Nat.le_of_ble_eq_true rfl | rfl | exact plain_i64 _ | exact plain_ints _ | exact all_ints _ | omega | (dsimp only; omega) | (simp; done) | (simp only [htf] at *; first | omega | (simp; omega))), ?_⟩; conv => whnf) | (refine ⟨_, rfl, ?_⟩; conv => whnf) | (first | refine iteP_true rfl ?_ | refine iteP_false rfl ?_ | refine iteP_true ‹_› ?_ | refine iteP_false ‹_› ?_; conv => whnf) | (refine And.intro (by kernel_rfl : indep _ _ = true) ?_; conv => whnf) | (refine And.intro (by rfl : List.all _ (noE _) = true) ?_; conv => whnf) | (refine And.intro (by first | exact Nat.le_of_ble_eq_true rfl | rfl | exact plain_i64 _ | exact plain_ints _ | exact all_ints _ | omega | (dsimp only; omega) | (simp; done) | (simp only [htf] at *; first | omega | (simp; omega))) ?_; conv => whnf) | (refine iteP_intro (fun hb => ?_) (fun hb => ?_) <;> (conv => whnf)))
  (refine ⟨_, indexFS_ret n ds ws hw hx h0 hn, ?_⟩; conv => whnf)
  repeat' (first | (refine ⟨_, (by simp only [nf, nl, nm, en, ints, Nat.reduceAdd, Nat.reduceMul]; exact rfl), ?_⟩; conv => whnf) | (refine ⟨_, pick_at rfl (by first | exact Nat.le_of_ble_eq_true rfl | rfl | exact plain_i64 _ | exact plain_ints _ | exact all_ints _ | omega | (dsimp only; omega) | (simp; done) | (simp only [htf] at *; first | omega | (simp; omega))), ?_⟩; conv => whnf) | (refine ⟨_, rfl, ?_⟩; conv => whnf) | (first | refine iteP_true rfl ?_ | refine iteP_false rfl ?_ | refine iteP_true ‹_› ?_ | refine iteP_false ‹_› ?_; conv => whnf) | (refine And.intro (by kernel_rfl : indep _ _ = true) ?_; conv => whnf) | (refine And.intro (by rfl : List.all _ (noE _) = true) ?_; conv => whnf) | (refine And.intro (by first | exact Nat.le_of_ble_eq_true rfl | rfl | exact plain_i64 _ | exact plain_ints _ | exact all_ints _ | omega | (dsimp only; omega) | (simp; done) | (simp only [htf] at *; first | omega | (simp; omega))) ?_; conv => whnf) | (refine iteP_intro (fun hb => ?_) (fun hb => ?_) <;> (conv => whnf)))
  exact endB (findI_nonneg _ _ _ (Int.le_refl _))
set_option maxHeartbeats 4000000 in
set_option maxRecDepth 100000 in
theorem checkSigned_ret (n : Int) (ds : List Int) (ws : List (List Int)) (hd : ds.length < 2 ^ 62) (hw : ws.length < 2 ^ 62) (hx : ∀ w ∈ ws, w.length < 2 ^ 62) : Ret Tryd.prog G0 44 [⟨.ro, .agg [i64 n, ints ds]⟩, ⟨.ro, .one (wordsC ws)⟩] ⟨.one (i64 (wcode (alphaOk n ds) (ws.all fun w => signedN n w))), []⟩ := by
  (refine ret_of_den (E := en 11 [] (fun _ => [])) tt_ok mixed Tryd.func44 rfl rfl rfl rfl ?_; refine ⟨by simp, ?_⟩)
  repeat' (first | (refine ⟨_, (by simp only [nf, nl, nm, en, ints, Nat.reduceAdd, Nat.reduceMul]; exact rfl), ?_⟩; conv => whnf) | (refine ⟨_, pick_at rfl (by first | exact Nat.le_of_ble_eq_true rfl | rfl | exact plain_i64 _ | exact plain_ints _ | exact all_ints _ | omega | (dsimp only; omega) | (simp; done) | (simp only [htf] at *; first | omega | (simp; omega))), ?_⟩; conv => whnf) | (refine ⟨_, rfl, ?_⟩; conv => whnf) | (first | refine iteP_true rfl ?_ | refine iteP_false rfl ?_ | refine iteP_true ‹_› ?_ | refine iteP_false ‹_› ?_; conv => whnf) | (refine And.intro (by kernel_rfl : indep _ _ = true) ?_; conv => whnf) | (refine And.intro (by rfl : List.all _ (noE _) = true) ?_; conv => whnf) | (refine And.intro (by first | exact Nat.le_of_ble_eq_true rfl | rfl | exact plain_i64 _ | exact plain_ints _ | exact all_ints _ | omega | (dsimp only; omega) | (simp; done) | (simp only [htf] at *; first | omega | (simp; omega))) ?_; conv => whnf) | (refine iteP_intro (fun hb => ?_) (fun hb => ?_) <;> (conv => whnf)))
  (refine ⟨_, isAlpha_ret n ds hd, ?_⟩; conv => whnf)
  repeat' (first | (refine ⟨_, (by simp only [nf, nl, nm, en, ints, Nat.reduceAdd, Nat.reduceMul]; exact rfl), ?_⟩; conv => whnf) | (refine ⟨_, pick_at rfl (by first | exact Nat.le_of_ble_eq_true rfl | rfl | exact plain_i64 _ | exact plain_ints _ | exact all_ints _ | omega | (dsimp only; omega) | (simp; done) | (simp only [htf] at *; first | omega | (simp; omega))), ?_⟩; conv => whnf) | (refine ⟨_, rfl, ?_⟩; conv => whnf) | (first | refine iteP_true rfl ?_ | refine iteP_false rfl ?_ | refine iteP_true ‹_› ?_ | refine iteP_false ‹_› ?_; conv => whnf) | (refine And.intro (by kernel_rfl : indep _ _ = true) ?_; conv => whnf) | (refine And.intro (by rfl : List.all _ (noE _) = true) ?_; conv => whnf) | (refine And.intro (by first | exact Nat.le_of_ble_eq_true rfl | rfl | exact plain_i64 _ | exact plain_ints _ | exact all_ints _ | omega | (dsimp only; omega) | (simp; done) | (simp only [htf] at *; first | omega | (simp; omega))) ?_; conv => whnf) | (refine iteP_intro (fun hb => ?_) (fun hb => ?_) <;> (conv => whnf)))
  · refine endI ?_
    unfold wcode
    rw [if_neg (by simpa using hb)]
  · have ha : alphaOk n ds = true := by simpa using hb
    have hn := alphaOk_n ha
    (refine ⟨_, containsFS_ret n ds ws hw hx (by omega) (by omega), ?_⟩; conv => whnf)
    repeat' (first | (refine ⟨_, (by simp only [nf, nl, nm, en, ints, Nat.reduceAdd, Nat.reduceMul]; exact rfl), ?_⟩; conv => whnf) | (refine ⟨_, pick_at rfl (by first | exact Nat.le_of_ble_eq_true rfl | rfl | exact plain_i64 _ | exact plain_ints _ | exact all_ints _ | omega | (dsimp only; omega) | (simp; done) | (simp only [htf] at *; first | omega | (simp; omega))), ?_⟩; conv => whnf) | (refine ⟨_, rfl, ?_⟩; conv => whnf) | (first | refine iteP_true rfl ?_ | refine iteP_false rfl ?_ | refine iteP_true ‹_› ?_ | refine iteP_false ‹_› ?_; conv => whnf) | (refine And.intro (by kernel_rfl : indep _ _ = true) ?_; conv => whnf) | (refine And.intro (by rfl : List.all _ (noE _) = true) ?_; conv => whnf) | (refine And.intro (by first | exact Nat.le_of_ble_eq_true rfl | rfl | exact plain_i64 _ | exact plain_ints _ | exact all_ints _ | omega | (dsimp only; omega) | (simp; done) | (simp only [htf] at *; first | omega | (simp; omega))) ?_; conv => whnf) | (refine iteP_intro (fun hb => ?_) (fun hb => ?_) <;> (conv => whnf)))
    · refine endI ?_
      unfold wcode
      rw [if_pos ha, if_neg (by rw [List.all_eq_not_any_not, hb]; simp)]
    · refine endI ?_
      unfold wcode
      rw [if_pos ha, if_pos (by rw [List.all_eq_not_any_not, hb]; rfl)]
/-- A letter is counted. -/
def bump (cs : List Int) (x : Int) : List Int := if 0 < x then cs.set (x - 1).toNat (cs.getD (x - 1).toNat 0 + 1) else cs.set (-x - 1).toNat (cs.getD (-x - 1).toNat 0 - 1)
theorem bump_length (cs : List Int) (x : Int) : (bump cs x).length = cs.length := by unfold bump; split <;> simp
theorem bumps_length (n : Nat) : ∀ (xs : List Int) (cs : List Int), cs.length = n → (xs.foldl bump cs).length = n
  | [], _, h => h
  | x :: xs, cs, h => bumps_length n xs _ (by rw [bump_length]; exact h)
theorem bump_le {cs : List Int} {x : Int} {k : Int} (h : ∀ c ∈ cs, -k ≤ c ∧ c ≤ k) (hk : 0 ≤ k) : ∀ c ∈ bump cs x, -(k + 1) ≤ c ∧ c ≤ k + 1 := fun c hc => by
  have hg : ∀ j, -k ≤ cs.getD j 0 ∧ cs.getD j 0 ≤ k := fun j => by
    rw [List.getD_eq_getElem?_getD]
    cases e : cs[j]? with
    | none => simp; omega
    | some y => exact h y (List.mem_of_getElem? e)
  unfold bump at hc
  split at hc <;> rcases List.mem_or_eq_of_mem_set hc with h1 | h1
  · have := h c h1; omega
  · have := hg (x - 1).toNat; omega
  · have := h c h1; omega
  · have := hg (-x - 1).toNat; omega
theorem bumps_le : ∀ (xs : List Int) {cs : List Int} {k : Int}, (∀ c ∈ cs, -k ≤ c ∧ c ≤ k) → 0 ≤ k → ∀ c ∈ xs.foldl bump cs, -(k + xs.length) ≤ c ∧ c ≤ k + xs.length
  | [], _, _, h, _ => by simpa using h
  | x :: xs, cs, k, h, hk => fun c hc => by
    have := bumps_le xs (bump_le (x := x) h hk) (by omega) c hc
    simp only [List.length_cons]
    omega
def expo (n : Nat) (xs : List Int) : List Int := xs.foldl bump (List.replicate n 0)
theorem expo_length (n : Nat) (xs : List Int) : (expo n xs).length = n := bumps_length n xs _ (by simp)
theorem expo_le (n : Nat) (xs : List Int) : ∀ c ∈ expo n xs, -(xs.length : Int) ≤ c ∧ c ≤ xs.length := fun c hc => by
  have := bumps_le xs (cs := List.replicate n 0) (k := 0) (fun c hc => by have := List.eq_of_mem_replicate hc; omega) (Int.le_refl _) c hc
  omega
theorem expo_step {n : Nat} {xs : List Int} {i : Nat} (hi : i < xs.length) : expo n (xs.take (i + 1)) = bump (expo n (xs.take i)) xs[i] := by
  unfold expo
  rw [List.take_succ_eq_append_getElem hi, List.foldl_append]
  rfl
/-- The exponents of a signed word, or the code. -/
def expoR (n : Int) (ds xs : List Int) : Option (List Int) := if alphaOk n ds && signedN n xs then some (expo n.toNat xs) else none
theorem signed_mem {n : Int} {xs : List Int} (h : signedN n xs = true) : xs.length ≤ 24 ∧ ∀ x ∈ xs, (-n ≤ x ∧ x ≤ n) ∧ 0 ≠ x := by
  unfold signedN at h
  simp only [Bool.and_eq_true, decide_eq_true_eq, List.all_eq_true, Bool.not_eq_true'] at h
  refine ⟨h.1.1, fun x hx => ⟨h.1.2 x hx, fun e => ?_⟩⟩
  have := List.any_eq_false.1 h.2 x hx
  simp [e] at this
end Go.Proofs.YthlnahomjdcbeaaDoor
