import Derived.Test.YthlnahomjdcbeaaDoorFb
set_option autoImplicit false
set_option linter.unusedSimpArgs false
set_option linter.unusedVariables false
namespace Go.Proofs.YthlnahomjdcbeaaDoor
open Go.Den
set_option maxHeartbeats 4000000 in
set_option maxRecDepth 100000 in
theorem isAlpha_ret (n : Int) (ds : List Int) (hx : ds.length < 2 ^ 62) : Ret Tryd.prog G0 34 [⟨.ro, .agg [i64 n, ints ds]⟩] ⟨.one (.c (.bool (alphaOk n ds))), []⟩ := by
  (refine ret_of_den (E := en 46 [] (fun _ => [(1, 0), (25, 0), (26, 0), (27, 0)])) tt_ok mixed Tryd.func34 rfl rfl rfl rfl ?_; refine ⟨by simp, ?_⟩)
  repeat' (first | (refine ⟨_, (by simp only [nf, nl, nm, en, ints, Nat.reduceAdd, Nat.reduceMul]; exact rfl), ?_⟩; conv => whnf) | (refine ⟨_, pick_at rfl (by first | exact Nat.le_of_ble_eq_true rfl | rfl | exact plain_i64 _ | exact plain_ints _ | exact all_ints _ | omega | (dsimp only; omega) | (simp; done) | (simp only [htf] at *; first | omega | (simp; omega))), ?_⟩; conv => whnf) | (refine ⟨_, rfl, ?_⟩; conv => whnf) | (first | refine iteP_true rfl ?_ | refine iteP_false rfl ?_ | refine iteP_true ‹_› ?_ | refine iteP_false ‹_› ?_; conv => whnf) | (refine And.intro (by kernel_rfl : indep _ _ = true) ?_; conv => whnf) | (refine And.intro (by rfl : List.all _ (noE _) = true) ?_; conv => whnf) | (refine And.intro (by first | exact Nat.le_of_ble_eq_true rfl | rfl | exact plain_i64 _ | exact plain_ints _ | exact all_ints _ | omega | (dsimp only; omega) | (simp; done) | (simp only [htf] at *; first | omega | (simp; omega))) ?_; conv => whnf) | (refine iteP_intro (fun hb => ?_) (fun hb => ?_) <;> (conv => whnf)))
  (refine ⟨_, inRange_ret _ _ _, ?_⟩; conv => whnf)
  repeat' (first | (refine ⟨_, (by simp only [nf, nl, nm, en, ints, Nat.reduceAdd, Nat.reduceMul]; exact rfl), ?_⟩; conv => whnf) | (refine ⟨_, pick_at rfl (by first | exact Nat.le_of_ble_eq_true rfl | rfl | exact plain_i64 _ | exact plain_ints _ | exact all_ints _ | omega | (dsimp only; omega) | (simp; done) | (simp only [htf] at *; first | omega | (simp; omega))), ?_⟩; conv => whnf) | (refine ⟨_, rfl, ?_⟩; conv => whnf) | (first | refine iteP_true rfl ?_ | refine iteP_false rfl ?_ | refine iteP_true ‹_› ?_ | refine iteP_false ‹_› ?_; conv => whnf) | (refine And.intro (by kernel_rfl : indep _ _ = true) ?_; conv => whnf) | (refine And.intro (by rfl : List.all _ (noE _) = true) ?_; conv => whnf) | (refine And.intro (by first | exact Nat.le_of_ble_eq_true rfl | rfl | exact plain_i64 _ | exact plain_ints _ | exact all_ints _ | omega | (dsimp only; omega) | (simp; done) | (simp only [htf] at *; first | omega | (simp; omega))) ?_; conv => whnf) | (refine iteP_intro (fun hb => ?_) (fun hb => ?_) <;> (conv => whnf)))
  · refine endB ?_
    unfold alphaOk
    rw [show decide (0 ≤ n ∧ n ≤ 8) = false by cases h : decide (0 ≤ n ∧ n ≤ 8) with | false => rfl | true => rw [h] at hb; cases hb]
    rfl
  · have hin : 0 ≤ n ∧ n ≤ 8 := by simpa using hb
    (refine ⟨_, length_ret ds, ?_⟩; conv => whnf)
    repeat (first | (refine ⟨_, (by simp only [nf, nl, nm, en, ints, Nat.reduceAdd, Nat.reduceMul]; exact rfl), ?_⟩; conv => whnf) | (refine ⟨_, pick_at rfl (by first | exact Nat.le_of_ble_eq_true rfl | rfl | exact plain_i64 _ | exact plain_ints _ | exact all_ints _ | omega | (dsimp only; omega) | (simp; done) | (simp only [htf] at *; first | omega | (simp; omega))), ?_⟩; conv => whnf) | (refine ⟨_, rfl, ?_⟩; conv => whnf) | (first | refine iteP_true rfl ?_ | refine iteP_false rfl ?_ | refine iteP_true ‹_› ?_ | refine iteP_false ‹_› ?_; conv => whnf) | (refine And.intro (by kernel_rfl : indep _ _ = true) ?_; conv => whnf) | (refine And.intro (by rfl : List.all _ (noE _) = true) ?_; conv => whnf) | (refine And.intro (by first | exact Nat.le_of_ble_eq_true rfl | rfl | exact plain_i64 _ | exact plain_ints _ | exact all_ints _ | omega | (dsimp only; omega) | (simp; done) | (simp only [htf] at *; first | omega | (simp; omega))) ?_; conv => whnf))
    refine iteP_intro (fun hb => ?_) (fun hb => ?_) <;> (conv => whnf)
    · repeat' (first | (refine ⟨_, (by simp only [nf, nl, nm, en, ints, Nat.reduceAdd, Nat.reduceMul]; exact rfl), ?_⟩; conv => whnf) | (refine ⟨_, pick_at rfl (by first | exact Nat.le_of_ble_eq_true rfl | rfl | exact plain_i64 _ | exact plain_ints _ | exact all_ints _ | omega | (dsimp only; omega) | (simp; done) | (simp only [htf] at *; first | omega | (simp; omega))), ?_⟩; conv => whnf) | (refine ⟨_, rfl, ?_⟩; conv => whnf) | (first | refine iteP_true rfl ?_ | refine iteP_false rfl ?_ | refine iteP_true ‹_› ?_ | refine iteP_false ‹_› ?_; conv => whnf) | (refine And.intro (by kernel_rfl : indep _ _ = true) ?_; conv => whnf) | (refine And.intro (by rfl : List.all _ (noE _) = true) ?_; conv => whnf) | (refine And.intro (by first | exact Nat.le_of_ble_eq_true rfl | rfl | exact plain_i64 _ | exact plain_ints _ | exact all_ints _ | omega | (dsimp only; omega) | (simp; done) | (simp only [htf] at *; first | omega | (simp; omega))) ?_; conv => whnf) | (refine iteP_intro (fun hb => ?_) (fun hb => ?_) <;> (conv => whnf)))
      refine endB ?_
      unfold alphaOk
      rw [decide_eq_false (show ¬ (ds.length : Int) = n from neT hb)]
      simp
    · have hln : (ds.length : Int) = n := neF hb
      repeat (first | (refine ⟨_, (by simp only [nf, nl, nm, en, ints, Nat.reduceAdd, Nat.reduceMul]; exact rfl), ?_⟩; conv => whnf) | (refine ⟨_, pick_at rfl (by first | exact Nat.le_of_ble_eq_true rfl | rfl | exact plain_i64 _ | exact plain_ints _ | exact all_ints _ | omega | (dsimp only; omega) | (simp; done) | (simp only [htf] at *; first | omega | (simp; omega))), ?_⟩; conv => whnf) | (refine ⟨_, rfl, ?_⟩; conv => whnf) | (first | refine iteP_true rfl ?_ | refine iteP_false rfl ?_ | refine iteP_true ‹_› ?_ | refine iteP_false ‹_› ?_; conv => whnf) | (refine And.intro (by kernel_rfl : indep _ _ = true) ?_; conv => whnf) | (refine And.intro (by rfl : List.all _ (noE _) = true) ?_; conv => whnf) | (refine And.intro (by first | exact Nat.le_of_ble_eq_true rfl | rfl | exact plain_i64 _ | exact plain_ints _ | exact all_ints _ | omega | (dsimp only; omega) | (simp; done) | (simp only [htf] at *; first | omega | (simp; omega))) ?_; conv => whnf))
      (refine ⟨_, isRel_ret ds hx, ?_⟩; conv => whnf)
      repeat (first | (refine ⟨_, (by simp only [nf, nl, nm, en, ints, Nat.reduceAdd, Nat.reduceMul]; exact rfl), ?_⟩; conv => whnf) | (refine ⟨_, pick_at rfl (by first | exact Nat.le_of_ble_eq_true rfl | rfl | exact plain_i64 _ | exact plain_ints _ | exact all_ints _ | omega | (dsimp only; omega) | (simp; done) | (simp only [htf] at *; first | omega | (simp; omega))), ?_⟩; conv => whnf) | (refine ⟨_, rfl, ?_⟩; conv => whnf) | (first | refine iteP_true rfl ?_ | refine iteP_false rfl ?_ | refine iteP_true ‹_› ?_ | refine iteP_false ‹_› ?_; conv => whnf) | (refine And.intro (by kernel_rfl : indep _ _ = true) ?_; conv => whnf) | (refine And.intro (by rfl : List.all _ (noE _) = true) ?_; conv => whnf) | (refine And.intro (by first | exact Nat.le_of_ble_eq_true rfl | rfl | exact plain_i64 _ | exact plain_ints _ | exact all_ints _ | omega | (dsimp only; omega) | (simp; done) | (simp only [htf] at *; first | omega | (simp; omega))) ?_; conv => whnf))
      refine iteP_intro (fun hr => ?_) (fun hr => ?_) <;> (conv => whnf)
      · repeat' (first | (refine ⟨_, (by simp only [nf, nl, nm, en, ints, Nat.reduceAdd, Nat.reduceMul]; exact rfl), ?_⟩; conv => whnf) | (refine ⟨_, pick_at rfl (by first | exact Nat.le_of_ble_eq_true rfl | rfl | exact plain_i64 _ | exact plain_ints _ | exact all_ints _ | omega | (dsimp only; omega) | (simp; done) | (simp only [htf] at *; first | omega | (simp; omega))), ?_⟩; conv => whnf) | (refine ⟨_, rfl, ?_⟩; conv => whnf) | (first | refine iteP_true rfl ?_ | refine iteP_false rfl ?_ | refine iteP_true ‹_› ?_ | refine iteP_false ‹_› ?_; conv => whnf) | (refine And.intro (by kernel_rfl : indep _ _ = true) ?_; conv => whnf) | (refine And.intro (by rfl : List.all _ (noE _) = true) ?_; conv => whnf) | (refine And.intro (by first | exact Nat.le_of_ble_eq_true rfl | rfl | exact plain_i64 _ | exact plain_ints _ | exact all_ints _ | omega | (dsimp only; omega) | (simp; done) | (simp only [htf] at *; first | omega | (simp; omega))) ?_; conv => whnf) | (refine iteP_intro (fun hb => ?_) (fun hb => ?_) <;> (conv => whnf)))
        refine endB ?_
        unfold alphaOk
        rw [show relOk ds = false by simpa using hr]
        simp
      · have hrel : relOk ds = true := by simpa using hr
        obtain ⟨hds, hm⟩ := rel_nat hrel
        generalize hms : ds.map Int.toNat = ms at hds hm
        have hl : ms.length = ds.length := by rw [← hms, List.length_map]
        repeat (first | (refine ⟨_, (by simp only [nf, nl, nm, en, ints, Nat.reduceAdd, Nat.reduceMul]; exact rfl), ?_⟩; conv => whnf) | (refine ⟨_, pick_at rfl (by first | exact Nat.le_of_ble_eq_true rfl | rfl | exact plain_i64 _ | exact plain_ints _ | exact all_ints _ | omega | (dsimp only; omega) | (simp; done) | (simp only [htf] at *; first | omega | (simp; omega))), ?_⟩; conv => whnf) | (refine ⟨_, rfl, ?_⟩; conv => whnf) | (first | refine iteP_true rfl ?_ | refine iteP_false rfl ?_ | refine iteP_true ‹_› ?_ | refine iteP_false ‹_› ?_; conv => whnf) | (refine And.intro (by kernel_rfl : indep _ _ = true) ?_; conv => whnf) | (refine And.intro (by rfl : List.all _ (noE _) = true) ?_; conv => whnf) | (refine And.intro (by first | exact Nat.le_of_ble_eq_true rfl | rfl | exact plain_i64 _ | exact plain_ints _ | exact all_ints _ | omega | (dsimp only; omega) | (simp; done) | (simp only [htf] at *; first | omega | (simp; omega))) ?_; conv => whnf))
        subst hds
        (refine ⟨_, converse_ret ms (by omega) hm, ?_⟩; conv => whnf)
        repeat (first | (refine ⟨_, (by simp only [nf, nl, nm, en, ints, Nat.reduceAdd, Nat.reduceMul]; exact rfl), ?_⟩; conv => whnf) | (refine ⟨_, pick_at rfl (by first | exact Nat.le_of_ble_eq_true rfl | rfl | exact plain_i64 _ | exact plain_ints _ | exact all_ints _ | omega | (dsimp only; omega) | (simp; done) | (simp only [htf] at *; first | omega | (simp; omega))), ?_⟩; conv => whnf) | (refine ⟨_, rfl, ?_⟩; conv => whnf) | (first | refine iteP_true rfl ?_ | refine iteP_false rfl ?_ | refine iteP_true ‹_› ?_ | refine iteP_false ‹_› ?_; conv => whnf) | (refine And.intro (by kernel_rfl : indep _ _ = true) ?_; conv => whnf) | (refine And.intro (by rfl : List.all _ (noE _) = true) ?_; conv => whnf) | (refine And.intro (by first | exact Nat.le_of_ble_eq_true rfl | rfl | exact plain_i64 _ | exact plain_ints _ | exact all_ints _ | omega | (dsimp only; omega) | (simp; done) | (simp only [htf] at *; first | omega | (simp; omega))) ?_; conv => whnf))
        refine ⟨fun k vs => ∃ i : Nat, i ≤ ms.length ∧ (∀ a < i, (ms.getD a 0).testBit a = true ∧ ∀ b < ms.length, (ms.getD a 0).testBit b = (ms.getD b 0).testBit a) ∧
            vs = [.one (.ptr [i64 n, .shd (ints (natI ms))]), .one (ints (natI (cvN ms ms.length))), .one (i64 (natI (cvN ms ms.length)).length), .one (i64 i)] ∧ k = ms.length - i, rfl, ⟨_, 0, by omega, by simp, rfl, rfl⟩, ?_⟩
        rintro k vs ⟨i, hi, hs, rfl, rfl⟩
        have hcl := natI_length (cvN ms ms.length)
        have hcl2 := cvN_length ms ms.length
        repeat (first | (refine ⟨_, (by simp only [nf, nl, nm, en, ints, Nat.reduceAdd, Nat.reduceMul]; exact rfl), ?_⟩; conv => whnf) | (refine ⟨_, pick_at rfl (by first | exact Nat.le_of_ble_eq_true rfl | rfl | exact plain_i64 _ | exact plain_ints _ | exact all_ints _ | omega | (dsimp only; omega) | (simp; done) | (simp only [htf] at *; first | omega | (simp; omega))), ?_⟩; conv => whnf) | (refine ⟨_, rfl, ?_⟩; conv => whnf) | (first | refine iteP_true rfl ?_ | refine iteP_false rfl ?_ | refine iteP_true ‹_› ?_ | refine iteP_false ‹_› ?_; conv => whnf) | (refine And.intro (by kernel_rfl : indep _ _ = true) ?_; conv => whnf) | (refine And.intro (by rfl : List.all _ (noE _) = true) ?_; conv => whnf) | (refine And.intro (by first | exact Nat.le_of_ble_eq_true rfl | rfl | exact plain_i64 _ | exact plain_ints _ | exact all_ints _ | omega | (dsimp only; omega) | (simp; done) | (simp only [htf] at *; first | omega | (simp; omega))) ?_; conv => whnf))
        refine iteP_intro (fun hb => ?_) (fun hb => ?_) <;> (conv => whnf)
        · have hi' : i < ms.length := by have := leT hb; omega
          have hgd : ms.getD i 0 = ms[i] := by rw [List.getD_eq_getElem?_getD, List.getElem?_eq_getElem hi', Option.getD_some]
          have hg1 : (natI (cvN ms ms.length))[i]'(by omega) = (((cvN ms ms.length)[i]'(by omega) : Nat) : Int) := natI_get _
          have hg2 : (natI ms)[i]'(by omega) = ((ms[i] : Nat) : Int) := natI_get _
          repeat (first | (refine ⟨_, (by simp only [nf, nl, nm, en, ints, Nat.reduceAdd, Nat.reduceMul, hg1, hg2]; exact rfl), ?_⟩; conv => whnf) | (refine ⟨_, pick_at rfl (by first | exact Nat.le_of_ble_eq_true rfl | rfl | exact plain_i64 _ | exact plain_ints _ | exact all_ints _ | omega | (dsimp only; omega) | (simp; done) | (simp only [htf] at *; first | omega | (simp; omega))), ?_⟩; conv => whnf) | (refine ⟨_, rfl, ?_⟩; conv => whnf) | (first | refine iteP_true rfl ?_ | refine iteP_false rfl ?_ | refine iteP_true ‹_› ?_ | refine iteP_false ‹_› ?_; conv => whnf) | (refine And.intro (by kernel_rfl : indep _ _ = true) ?_; conv => whnf) | (refine And.intro (by rfl : List.all _ (noE _) = true) ?_; conv => whnf) | (refine And.intro (by first | exact Nat.le_of_ble_eq_true rfl | rfl | exact plain_i64 _ | exact plain_ints _ | exact all_ints _ | omega | (dsimp only; omega) | (simp; done) | (simp only [htf] at *; first | omega | (simp; omega))) ?_; conv => whnf))
          refine iteP_intro (fun hc => ?_) (fun hc => ?_) <;> (conv => whnf)
          · repeat' (first | (refine ⟨_, (by simp only [nf, nl, nm, en, ints, Nat.reduceAdd, Nat.reduceMul, hg1, hg2]; exact rfl), ?_⟩; conv => whnf) | (refine ⟨_, pick_at rfl (by first | exact Nat.le_of_ble_eq_true rfl | rfl | exact plain_i64 _ | exact plain_ints _ | exact all_ints _ | omega | (dsimp only; omega) | (simp; done) | (simp only [htf] at *; first | omega | (simp; omega))), ?_⟩; conv => whnf) | (refine ⟨_, rfl, ?_⟩; conv => whnf) | (first | refine iteP_true rfl ?_ | refine iteP_false rfl ?_ | refine iteP_true ‹_› ?_ | refine iteP_false ‹_› ?_; conv => whnf) | (refine And.intro (by kernel_rfl : indep _ _ = true) ?_; conv => whnf) | (refine And.intro (by rfl : List.all _ (noE _) = true) ?_; conv => whnf) | (refine And.intro (by first | exact Nat.le_of_ble_eq_true rfl | rfl | exact plain_i64 _ | exact plain_ints _ | exact all_ints _ | omega | (dsimp only; omega) | (simp; done) | (simp only [htf] at *; first | omega | (simp; omega))) ?_; conv => whnf) | (refine iteP_intro (fun hb => ?_) (fun hb => ?_) <;> (conv => whnf)))
            refine endB ?_
            have hne : ¬ symOk (List.map Int.toNat (natI ms)) = true := fun h => by
              rw [hms, symOk_iff] at h
              exact neT hc (congrArg _ ((cv_sym hm hi').2 (h i hi').2))
            unfold alphaOk
            rw [show symOk (List.map Int.toNat (natI ms)) = false by simpa using hne, Bool.and_false]
          · have hce : (cvN ms ms.length)[i]'(by omega) = ms[i] := Int.natCast_inj.1 (neF hc)
            have hbt := (cv_sym hm hi').1 hce
            have hcc : (((ms[i] : Nat) : Int) != ((ms[i] : Nat) : Int)) = false := by simp
            have hlt : ms[i] < 2 ^ 63 := Nat.lt_of_lt_of_le (hm _ (List.getElem_mem hi')) (Nat.pow_le_pow_right (by decide) (by omega))
            repeat (first | (refine ⟨_, (by simp only [nf, nl, nm, en, ints, Nat.reduceAdd, Nat.reduceMul, hg1, hg2, hce]; exact rfl), ?_⟩; conv => whnf) | (refine ⟨_, pick_at rfl (by first | exact Nat.le_of_ble_eq_true rfl | rfl | exact plain_i64 _ | exact plain_ints _ | exact all_ints _ | omega | (dsimp only; omega) | (simp; done) | (simp only [htf] at *; first | omega | (simp; omega))), ?_⟩; conv => whnf) | (refine ⟨_, rfl, ?_⟩; conv => whnf) | (first | refine iteP_true rfl ?_ | refine iteP_false rfl ?_ | refine iteP_true ‹_› ?_ | refine iteP_false ‹_› ?_; conv => whnf) | (refine And.intro (by kernel_rfl : indep _ _ = true) ?_; conv => whnf) | (refine And.intro (by rfl : List.all _ (noE _) = true) ?_; conv => whnf) | (refine And.intro (by first | exact Nat.le_of_ble_eq_true rfl | rfl | exact plain_i64 _ | exact plain_ints _ | exact all_ints _ | omega | (dsimp only; omega) | (simp; done) | (simp only [htf] at *; first | omega | (simp; omega))) ?_; conv => whnf))
            (refine ⟨_, has_ret ms[i] i hlt (by omega), ?_⟩; conv => whnf)
            repeat (first | (refine ⟨_, (by simp only [nf, nl, nm, en, ints, Nat.reduceAdd, Nat.reduceMul, hg1, hg2, hce]; exact rfl), ?_⟩; conv => whnf) | (refine ⟨_, pick_at rfl (by first | exact Nat.le_of_ble_eq_true rfl | rfl | exact plain_i64 _ | exact plain_ints _ | exact all_ints _ | omega | (dsimp only; omega) | (simp; done) | (simp only [htf] at *; first | omega | (simp; omega))), ?_⟩; conv => whnf) | (refine ⟨_, rfl, ?_⟩; conv => whnf) | (first | refine iteP_true rfl ?_ | refine iteP_false rfl ?_ | refine iteP_true ‹_› ?_ | refine iteP_false ‹_› ?_; conv => whnf) | (refine And.intro (by kernel_rfl : indep _ _ = true) ?_; conv => whnf) | (refine And.intro (by rfl : List.all _ (noE _) = true) ?_; conv => whnf) | (refine And.intro (by first | exact Nat.le_of_ble_eq_true rfl | rfl | exact plain_i64 _ | exact plain_ints _ | exact all_ints _ | omega | (dsimp only; omega) | (simp; done) | (simp only [htf] at *; first | omega | (simp; omega))) ?_; conv => whnf))
            refine iteP_intro (fun hh => ?_) (fun hh => ?_) <;> (conv => whnf)
            · repeat' (first | (refine ⟨_, (by simp only [nf, nl, nm, en, ints, Nat.reduceAdd, Nat.reduceMul, hg1, hg2]; exact rfl), ?_⟩; conv => whnf) | (refine ⟨_, pick_at rfl (by first | exact Nat.le_of_ble_eq_true rfl | rfl | exact plain_i64 _ | exact plain_ints _ | exact all_ints _ | omega | (dsimp only; omega) | (simp; done) | (simp only [htf] at *; first | omega | (simp; omega))), ?_⟩; conv => whnf) | (refine ⟨_, rfl, ?_⟩; conv => whnf) | (first | refine iteP_true rfl ?_ | refine iteP_false rfl ?_ | refine iteP_true ‹_› ?_ | refine iteP_false ‹_› ?_; conv => whnf) | (refine And.intro (by kernel_rfl : indep _ _ = true) ?_; conv => whnf) | (refine And.intro (by rfl : List.all _ (noE _) = true) ?_; conv => whnf) | (refine And.intro (by first | exact Nat.le_of_ble_eq_true rfl | rfl | exact plain_i64 _ | exact plain_ints _ | exact all_ints _ | omega | (dsimp only; omega) | (simp; done) | (simp only [htf] at *; first | omega | (simp; omega))) ?_; conv => whnf) | (refine iteP_intro (fun hb => ?_) (fun hb => ?_) <;> (conv => whnf)))
              refine endB ?_
              have hne : ¬ symOk (List.map Int.toNat (natI ms)) = true := fun h => by
                rw [hms, symOk_iff] at h
                have := (h i hi').1
                rw [hgd] at this
                rw [this] at hh
                cases hh
              unfold alphaOk
              rw [show symOk (List.map Int.toNat (natI ms)) = false by simpa using hne, Bool.and_false]
            · repeat (first | (refine ⟨_, (by simp only [nf, nl, nm, en, ints, Nat.reduceAdd, Nat.reduceMul, hg1, hg2, hce]; exact rfl), ?_⟩; conv => whnf) | (refine ⟨_, pick_at rfl (by first | exact Nat.le_of_ble_eq_true rfl | rfl | exact plain_i64 _ | exact plain_ints _ | exact all_ints _ | omega | (dsimp only; omega) | (simp; done) | (simp only [htf] at *; first | omega | (simp; omega))), ?_⟩; conv => whnf) | (refine ⟨_, rfl, ?_⟩; conv => whnf) | (first | refine iteP_true rfl ?_ | refine iteP_false rfl ?_ | refine iteP_true ‹_› ?_ | refine iteP_false ‹_› ?_; conv => whnf) | (refine And.intro (by kernel_rfl : indep _ _ = true) ?_; conv => whnf) | (refine And.intro (by rfl : List.all _ (noE _) = true) ?_; conv => whnf) | (refine And.intro (by first | exact Nat.le_of_ble_eq_true rfl | rfl | exact plain_i64 _ | exact plain_ints _ | exact all_ints _ | omega | (dsimp only; omega) | (simp; done) | (simp only [htf] at *; first | omega | (simp; omega))) ?_; conv => whnf))
              refine ⟨_, ?_, i + 1, hi', fun a ha => ?_, by rw [wrap_succ (by omega)]; rfl, rfl⟩
              · omega
              · rcases Nat.lt_succ_iff_lt_or_eq.1 ha with h | rfl
                · exact hs a h
                · exact ⟨by rw [hgd]; simpa using hh, hbt⟩
        · obtain rfl : i = ms.length := by have := leF hb; omega
          repeat' (first | (refine ⟨_, (by simp only [nf, nl, nm, en, ints, Nat.reduceAdd, Nat.reduceMul]; exact rfl), ?_⟩; conv => whnf) | (refine ⟨_, pick_at rfl (by first | exact Nat.le_of_ble_eq_true rfl | rfl | exact plain_i64 _ | exact plain_ints _ | exact all_ints _ | omega | (dsimp only; omega) | (simp; done) | (simp only [htf] at *; first | omega | (simp; omega))), ?_⟩; conv => whnf) | (refine ⟨_, rfl, ?_⟩; conv => whnf) | (first | refine iteP_true rfl ?_ | refine iteP_false rfl ?_ | refine iteP_true ‹_› ?_ | refine iteP_false ‹_› ?_; conv => whnf) | (refine And.intro (by kernel_rfl : indep _ _ = true) ?_; conv => whnf) | (refine And.intro (by rfl : List.all _ (noE _) = true) ?_; conv => whnf) | (refine And.intro (by first | exact Nat.le_of_ble_eq_true rfl | rfl | exact plain_i64 _ | exact plain_ints _ | exact all_ints _ | omega | (dsimp only; omega) | (simp; done) | (simp only [htf] at *; first | omega | (simp; omega))) ?_; conv => whnf) | (refine iteP_intro (fun hb => ?_) (fun hb => ?_) <;> (conv => whnf)))
          refine endB ?_
          unfold alphaOk
          rw [decide_eq_true hin, decide_eq_true hln, hrel, hms, symOk_iff.2 hs]
          rfl
set_option maxHeartbeats 4000000 in
set_option maxRecDepth 100000 in
theorem l01One_ret (i : Nat) (hi : i < 63) : Ret Tryd.prog G0 47 [⟨.ro, .one (i64 i)⟩] ⟨.one (i64 ((2 ^ i : Nat) : Int)), []⟩ := by
  (refine ret_of_den (E := en 6 [] (fun _ => [])) tt_ok mixed Tryd.func47 rfl rfl rfl rfl ?_; refine ⟨by simp, ?_⟩)
  have hw : IntKind.u64.wrap (i : Int) = i := wrap_u64 (by omega) (by omega)
  repeat' (first | (refine ⟨_, (by simp only [nf, nl, nm, en, ints, Nat.reduceAdd, Nat.reduceMul, hw]; exact rfl), ?_⟩; conv => whnf) | (refine ⟨_, pick_at rfl (by first | exact Nat.le_of_ble_eq_true rfl | rfl | exact plain_i64 _ | exact plain_ints _ | exact all_ints _ | omega | (dsimp only; omega) | (simp; done) | (simp only [htf] at *; first | omega | (simp; omega))), ?_⟩; conv => whnf) | (refine ⟨_, rfl, ?_⟩; conv => whnf) | (first | refine iteP_true rfl ?_ | refine iteP_false rfl ?_ | refine iteP_true ‹_› ?_ | refine iteP_false ‹_› ?_; conv => whnf) | (refine And.intro (by kernel_rfl : indep _ _ = true) ?_; conv => whnf) | (refine And.intro (by rfl : List.all _ (noE _) = true) ?_; conv => whnf) | (refine And.intro (by first | exact Nat.le_of_ble_eq_true rfl | rfl | exact plain_i64 _ | exact plain_ints _ | exact all_ints _ | omega | (dsimp only; omega) | (simp; done) | (simp only [htf] at *; first | omega | (simp; omega))) ?_; conv => whnf) | (refine iteP_intro (fun hb => ?_) (fun hb => ?_) <;> (conv => whnf)))
  refine endI ?_
  have hp := pow_i64 hi
  have h1 := Nat.two_pow_pos i
  rw [show min (i : Int).toNat IntKind.i64.bits = i by rw [Int.toNat_natCast]; exact Nat.min_eq_left (by simp [IntKind.bits]; omega), Int.one_mul, show (2 : Int) ^ i = ((2 ^ i : Nat) : Int) by simp]
  exact wrap_nat (by omega)
set_option maxHeartbeats 4000000 in
set_option maxRecDepth 100000 in
theorem l01Full_ret (i : Nat) (hi : i < 63) : Ret Tryd.prog G0 82 [⟨.ro, .one (i64 i)⟩] ⟨.one (i64 (((2 ^ i : Nat) : Int) - 1)), []⟩ := by
  (refine ret_of_den (E := en 6 [] (fun _ => [])) tt_ok mixed Tryd.func82 rfl rfl rfl rfl ?_; refine ⟨by simp, ?_⟩)
  repeat' (first | (refine ⟨_, (by simp only [nf, nl, nm, en, ints, Nat.reduceAdd, Nat.reduceMul]; exact rfl), ?_⟩; conv => whnf) | (refine ⟨_, pick_at rfl (by first | exact Nat.le_of_ble_eq_true rfl | rfl | exact plain_i64 _ | exact plain_ints _ | exact all_ints _ | omega | (dsimp only; omega) | (simp; done) | (simp only [htf] at *; first | omega | (simp; omega))), ?_⟩; conv => whnf) | (refine ⟨_, rfl, ?_⟩; conv => whnf) | (first | refine iteP_true rfl ?_ | refine iteP_false rfl ?_ | refine iteP_true ‹_› ?_ | refine iteP_false ‹_› ?_; conv => whnf) | (refine And.intro (by kernel_rfl : indep _ _ = true) ?_; conv => whnf) | (refine And.intro (by rfl : List.all _ (noE _) = true) ?_; conv => whnf) | (refine And.intro (by first | exact Nat.le_of_ble_eq_true rfl | rfl | exact plain_i64 _ | exact plain_ints _ | exact all_ints _ | omega | (dsimp only; omega) | (simp; done) | (simp only [htf] at *; first | omega | (simp; omega))) ?_; conv => whnf) | (refine iteP_intro (fun hb => ?_) (fun hb => ?_) <;> (conv => whnf)))
  (refine ⟨_, l01One_ret i hi, ?_⟩; conv => whnf)
  repeat' (first | (refine ⟨_, (by simp only [nf, nl, nm, en, ints, Nat.reduceAdd, Nat.reduceMul]; exact rfl), ?_⟩; conv => whnf) | (refine ⟨_, pick_at rfl (by first | exact Nat.le_of_ble_eq_true rfl | rfl | exact plain_i64 _ | exact plain_ints _ | exact all_ints _ | omega | (dsimp only; omega) | (simp; done) | (simp only [htf] at *; first | omega | (simp; omega))), ?_⟩; conv => whnf) | (refine ⟨_, rfl, ?_⟩; conv => whnf) | (first | refine iteP_true rfl ?_ | refine iteP_false rfl ?_ | refine iteP_true ‹_› ?_ | refine iteP_false ‹_› ?_; conv => whnf) | (refine And.intro (by kernel_rfl : indep _ _ = true) ?_; conv => whnf) | (refine And.intro (by rfl : List.all _ (noE _) = true) ?_; conv => whnf) | (refine And.intro (by first | exact Nat.le_of_ble_eq_true rfl | rfl | exact plain_i64 _ | exact plain_ints _ | exact all_ints _ | omega | (dsimp only; omega) | (simp; done) | (simp only [htf] at *; first | omega | (simp; omega))) ?_; conv => whnf) | (refine iteP_intro (fun hb => ?_) (fun hb => ?_) <;> (conv => whnf)))
  refine endI (wrap_i64 ?_ ?_)
  · have h1 := Nat.two_pow_pos i; omega
  · have hp := pow_i64 hi; omega
set_option maxHeartbeats 4000000 in
set_option maxRecDepth 100000 in
theorem l01Masks_ret (n : Nat) (ds : List Int) (hn : n < 63) (hx : ds.length < 2 ^ 62) : Ret Tryd.prog G0 73 [⟨.ro, .one (i64 n)⟩, ⟨.ro, .one (ints ds)⟩] ⟨.one (.c (.bool (ds.all fun d => decide (0 ≤ d ∧ d ≤ ((2 ^ n : Nat) : Int) - 1)))), []⟩ := by
  (refine ret_of_den (E := en 20 [] (fun _ => [(5, 0), (0, 0), (1, 1)])) tt_ok mixed Tryd.func73 rfl rfl rfl rfl ?_; refine ⟨by simp, ?_⟩)
  repeat' (first | (refine ⟨_, (by simp only [nf, nl, nm, en, ints, Nat.reduceAdd, Nat.reduceMul]; exact rfl), ?_⟩; conv => whnf) | (refine ⟨_, pick_at rfl (by first | exact Nat.le_of_ble_eq_true rfl | rfl | exact plain_i64 _ | exact plain_ints _ | exact all_ints _ | omega | (dsimp only; omega) | (simp; done) | (simp only [htf] at *; first | omega | (simp; omega))), ?_⟩; conv => whnf) | (refine ⟨_, rfl, ?_⟩; conv => whnf) | (first | refine iteP_true rfl ?_ | refine iteP_false rfl ?_ | refine iteP_true ‹_› ?_ | refine iteP_false ‹_› ?_; conv => whnf) | (refine And.intro (by kernel_rfl : indep _ _ = true) ?_; conv => whnf) | (refine And.intro (by rfl : List.all _ (noE _) = true) ?_; conv => whnf) | (refine And.intro (by first | exact Nat.le_of_ble_eq_true rfl | rfl | exact plain_i64 _ | exact plain_ints _ | exact all_ints _ | omega | (dsimp only; omega) | (simp; done) | (simp only [htf] at *; first | omega | (simp; omega))) ?_; conv => whnf) | (refine iteP_intro (fun hb => ?_) (fun hb => ?_) <;> (conv => whnf)))
  refine ⟨fun k vs => ∃ i : Nat, i ≤ ds.length ∧ (∀ d ∈ ds.take i, 0 ≤ d ∧ d ≤ ((2 ^ n : Nat) : Int) - 1) ∧ vs = [.one (i64 i), .one (i64 n), .one (.shd (ints ds))] ∧ k = ds.length - i, rfl, ⟨_, 0, by omega, by simp, rfl, rfl⟩, ?_⟩
  rintro k vs ⟨i, hi, hs, rfl, rfl⟩
  repeat' (first | (refine ⟨_, (by simp only [nf, nl, nm, en, ints, Nat.reduceAdd, Nat.reduceMul]; exact rfl), ?_⟩; conv => whnf) | (refine ⟨_, pick_at rfl (by first | exact Nat.le_of_ble_eq_true rfl | rfl | exact plain_i64 _ | exact plain_ints _ | exact all_ints _ | omega | (dsimp only; omega) | (simp; done) | (simp only [htf] at *; first | omega | (simp; omega))), ?_⟩; conv => whnf) | (refine ⟨_, rfl, ?_⟩; conv => whnf) | (first | refine iteP_true rfl ?_ | refine iteP_false rfl ?_ | refine iteP_true ‹_› ?_ | refine iteP_false ‹_› ?_; conv => whnf) | (refine And.intro (by kernel_rfl : indep _ _ = true) ?_; conv => whnf) | (refine And.intro (by rfl : List.all _ (noE _) = true) ?_; conv => whnf) | (refine And.intro (by first | exact Nat.le_of_ble_eq_true rfl | rfl | exact plain_i64 _ | exact plain_ints _ | exact all_ints _ | omega | (dsimp only; omega) | (simp; done) | (simp only [htf] at *; first | omega | (simp; omega))) ?_; conv => whnf) | (refine iteP_intro (fun hb => ?_) (fun hb => ?_) <;> (conv => whnf)))
  · have hi' : i < ds.length := ltT hb
    (refine ⟨_, l01Full_ret n hn, ?_⟩; conv => whnf)
    repeat' (first | (refine ⟨_, (by simp only [nf, nl, nm, en, ints, Nat.reduceAdd, Nat.reduceMul]; exact rfl), ?_⟩; conv => whnf) | (refine ⟨_, pick_at rfl (by first | exact Nat.le_of_ble_eq_true rfl | rfl | exact plain_i64 _ | exact plain_ints _ | exact all_ints _ | omega | (dsimp only; omega) | (simp; done) | (simp only [htf] at *; first | omega | (simp; omega))), ?_⟩; conv => whnf) | (refine ⟨_, rfl, ?_⟩; conv => whnf) | (first | refine iteP_true rfl ?_ | refine iteP_false rfl ?_ | refine iteP_true ‹_› ?_ | refine iteP_false ‹_› ?_; conv => whnf) | (refine And.intro (by kernel_rfl : indep _ _ = true) ?_; conv => whnf) | (refine And.intro (by rfl : List.all _ (noE _) = true) ?_; conv => whnf) | (refine And.intro (by first | exact Nat.le_of_ble_eq_true rfl | rfl | exact plain_i64 _ | exact plain_ints _ | exact all_ints _ | omega | (dsimp only; omega) | (simp; done) | (simp only [htf] at *; first | omega | (simp; omega))) ?_; conv => whnf) | (refine iteP_intro (fun hb => ?_) (fun hb => ?_) <;> (conv => whnf)))
    (refine ⟨_, l01In_ret _ _ _, ?_⟩; conv => whnf)
    repeat' (first | (refine ⟨_, (by simp only [nf, nl, nm, en, ints, Nat.reduceAdd, Nat.reduceMul]; exact rfl), ?_⟩; conv => whnf) | (refine ⟨_, pick_at rfl (by first | exact Nat.le_of_ble_eq_true rfl | rfl | exact plain_i64 _ | exact plain_ints _ | exact all_ints _ | omega | (dsimp only; omega) | (simp; done) | (simp only [htf] at *; first | omega | (simp; omega))), ?_⟩; conv => whnf) | (refine ⟨_, rfl, ?_⟩; conv => whnf) | (first | refine iteP_true rfl ?_ | refine iteP_false rfl ?_ | refine iteP_true ‹_› ?_ | refine iteP_false ‹_› ?_; conv => whnf) | (refine And.intro (by kernel_rfl : indep _ _ = true) ?_; conv => whnf) | (refine And.intro (by rfl : List.all _ (noE _) = true) ?_; conv => whnf) | (refine And.intro (by first | exact Nat.le_of_ble_eq_true rfl | rfl | exact plain_i64 _ | exact plain_ints _ | exact all_ints _ | omega | (dsimp only; omega) | (simp; done) | (simp only [htf] at *; first | omega | (simp; omega))) ?_; conv => whnf) | (refine iteP_intro (fun hb => ?_) (fun hb => ?_) <;> (conv => whnf)))
    · refine endB ?_
      symm
      rw [List.all_eq_false]
      refine ⟨ds[i], List.getElem_mem _, ?_⟩
      cases h : decide (0 ≤ ds[i] ∧ ds[i] ≤ ((2 ^ n : Nat) : Int) - 1) with
      | false => simp
      | true => rw [h] at hb; cases hb
    · refine ⟨_, ?_, i + 1, hi', fun d hd => ?_, by rw [wrap_succ (by omega)]; rfl, rfl⟩
      · omega
      · rw [List.take_succ_eq_append_getElem hi'] at hd
        rcases List.mem_append.1 hd with h | h
        · exact hs d h
        · obtain rfl := List.mem_singleton.1 h
          simpa using hb
  · obtain rfl : i = ds.length := Nat.le_antisymm hi (ltF hb)
    refine endB ?_
    symm
    rw [List.take_length] at hs
    exact List.all_eq_true.2 fun d hd => decide_eq_true (hs d hd)
set_option maxHeartbeats 4000000 in
set_option maxRecDepth 100000 in
theorem l02Is_ret (n : Int) (ds : List Int) (hx : ds.length < 2 ^ 62) : Ret Tryd.prog G0 52 [⟨.ro, .agg [i64 n, ints ds]⟩] ⟨.one (.c (.bool (alphaOk n ds))), []⟩ := by
  (refine ret_of_den (E := en 60 [] (fun | 4 => [(1, 0), (3, 0)] | 9 => [(1, 0), (3, 0), (4, 0)] | _ => [])) tt_ok mixed Tryd.func52 rfl rfl rfl rfl ?_; refine ⟨by simp, ?_⟩)
  repeat' (first | (refine ⟨_, (by simp only [nf, nl, nm, en, ints, Nat.reduceAdd, Nat.reduceMul]; exact rfl), ?_⟩; conv => whnf) | (refine ⟨_, pick_at rfl (by first | exact Nat.le_of_ble_eq_true rfl | rfl | exact plain_i64 _ | exact plain_ints _ | exact all_ints _ | omega | (dsimp only; omega) | (simp; done) | (simp only [htf] at *; first | omega | (simp; omega))), ?_⟩; conv => whnf) | (refine ⟨_, rfl, ?_⟩; conv => whnf) | (first | refine iteP_true rfl ?_ | refine iteP_false rfl ?_ | refine iteP_true ‹_› ?_ | refine iteP_false ‹_› ?_; conv => whnf) | (refine And.intro (by kernel_rfl : indep _ _ = true) ?_; conv => whnf) | (refine And.intro (by rfl : List.all _ (noE _) = true) ?_; conv => whnf) | (refine And.intro (by first | exact Nat.le_of_ble_eq_true rfl | rfl | exact plain_i64 _ | exact plain_ints _ | exact all_ints _ | omega | (dsimp only; omega) | (simp; done) | (simp only [htf] at *; first | omega | (simp; omega))) ?_; conv => whnf) | (refine iteP_intro (fun hb => ?_) (fun hb => ?_) <;> (conv => whnf)))
  (refine ⟨_, l01In_ret _ _ _, ?_⟩; conv => whnf)
  repeat' (first | (refine ⟨_, (by simp only [nf, nl, nm, en, ints, Nat.reduceAdd, Nat.reduceMul]; exact rfl), ?_⟩; conv => whnf) | (refine ⟨_, pick_at rfl (by first | exact Nat.le_of_ble_eq_true rfl | rfl | exact plain_i64 _ | exact plain_ints _ | exact all_ints _ | omega | (dsimp only; omega) | (simp; done) | (simp only [htf] at *; first | omega | (simp; omega))), ?_⟩; conv => whnf) | (refine ⟨_, rfl, ?_⟩; conv => whnf) | (first | refine iteP_true rfl ?_ | refine iteP_false rfl ?_ | refine iteP_true ‹_› ?_ | refine iteP_false ‹_› ?_; conv => whnf) | (refine And.intro (by kernel_rfl : indep _ _ = true) ?_; conv => whnf) | (refine And.intro (by rfl : List.all _ (noE _) = true) ?_; conv => whnf) | (refine And.intro (by first | exact Nat.le_of_ble_eq_true rfl | rfl | exact plain_i64 _ | exact plain_ints _ | exact all_ints _ | omega | (dsimp only; omega) | (simp; done) | (simp only [htf] at *; first | omega | (simp; omega))) ?_; conv => whnf) | (refine iteP_intro (fun hb => ?_) (fun hb => ?_) <;> (conv => whnf)))
  · refine endB ?_
    unfold alphaOk
    rw [show decide (0 ≤ n ∧ n ≤ 8) = false by cases h : decide (0 ≤ n ∧ n ≤ 8) with | false => rfl | true => rw [h] at hb; cases hb]
    rfl
  · refine endB ?_
    unfold alphaOk
    rw [decide_eq_false (show ¬ (ds.length : Int) = n from neT hb)]
    simp
  · have hin : 0 ≤ n ∧ n ≤ 8 := by simpa using ‹(!decide (0 ≤ n ∧ n ≤ 8)) = false›
    have hln : (ds.length : Int) = n := neF hb
    subst hln
    (refine ⟨_, l01Masks_ret ds.length ds (by omega) hx, ?_⟩; conv => whnf)
    repeat (first | (refine ⟨_, (by simp only [nf, nl, nm, en, ints, Nat.reduceAdd, Nat.reduceMul]; exact rfl), ?_⟩; conv => whnf) | (refine ⟨_, pick_at rfl (by first | exact Nat.le_of_ble_eq_true rfl | rfl | exact plain_i64 _ | exact plain_ints _ | exact all_ints _ | omega | (dsimp only; omega) | (simp; done) | (simp only [htf] at *; first | omega | (simp; omega))), ?_⟩; conv => whnf) | (refine ⟨_, rfl, ?_⟩; conv => whnf) | (first | refine iteP_true rfl ?_ | refine iteP_false rfl ?_ | refine iteP_true ‹_› ?_ | refine iteP_false ‹_› ?_; conv => whnf) | (refine And.intro (by kernel_rfl : indep _ _ = true) ?_; conv => whnf) | (refine And.intro (by rfl : List.all _ (noE _) = true) ?_; conv => whnf) | (refine And.intro (by first | exact Nat.le_of_ble_eq_true rfl | rfl | exact plain_i64 _ | exact plain_ints _ | exact all_ints _ | omega | (dsimp only; omega) | (simp; done) | (simp only [htf] at *; first | omega | (simp; omega))) ?_; conv => whnf))
    refine iteP_intro (fun hr => ?_) (fun hr => ?_) <;> (conv => whnf)
    · repeat' (first | (refine ⟨_, (by simp only [nf, nl, nm, en, ints, Nat.reduceAdd, Nat.reduceMul]; exact rfl), ?_⟩; conv => whnf) | (refine ⟨_, pick_at rfl (by first | exact Nat.le_of_ble_eq_true rfl | rfl | exact plain_i64 _ | exact plain_ints _ | exact all_ints _ | omega | (dsimp only; omega) | (simp; done) | (simp only [htf] at *; first | omega | (simp; omega))), ?_⟩; conv => whnf) | (refine ⟨_, rfl, ?_⟩; conv => whnf) | (first | refine iteP_true rfl ?_ | refine iteP_false rfl ?_ | refine iteP_true ‹_› ?_ | refine iteP_false ‹_› ?_; conv => whnf) | (refine And.intro (by kernel_rfl : indep _ _ = true) ?_; conv => whnf) | (refine And.intro (by rfl : List.all _ (noE _) = true) ?_; conv => whnf) | (refine And.intro (by first | exact Nat.le_of_ble_eq_true rfl | rfl | exact plain_i64 _ | exact plain_ints _ | exact all_ints _ | omega | (dsimp only; omega) | (simp; done) | (simp only [htf] at *; first | omega | (simp; omega))) ?_; conv => whnf) | (refine iteP_intro (fun hb => ?_) (fun hb => ?_) <;> (conv => whnf)))
      refine endB ?_
      have : relOk ds = false := by
        unfold relOk
        rw [show ((2 : Int) ^ ds.length) = ((2 ^ ds.length : Nat) : Int) by simp]
        rw [Bool.not_eq_true'] at hr
        rw [hr, Bool.and_false]
      unfold alphaOk
      rw [this]
      simp
    · have hrel : relOk ds = true := by
        unfold relOk
        rw [show ((2 : Int) ^ ds.length) = ((2 ^ ds.length : Nat) : Int) by simp]
        rw [Bool.not_eq_false'] at hr
        rw [hr, decide_eq_true (by omega)]
        rfl
      obtain ⟨hds, hm⟩ := rel_nat hrel
      generalize hms : ds.map Int.toNat = ms at hds hm
      have hl : ms.length = ds.length := by rw [← hms, List.length_map]
      have hfin : ∀ b, symOk ms = b → alphaOk (ds.length : Int) ds = b := fun b hb => by
        unfold alphaOk
        rw [decide_eq_true hin, hrel, hms, hb]
        simp
      repeat (first | (refine ⟨_, (by simp only [nf, nl, nm, en, ints, Nat.reduceAdd, Nat.reduceMul]; exact rfl), ?_⟩; conv => whnf) | (refine ⟨_, pick_at rfl (by first | exact Nat.le_of_ble_eq_true rfl | rfl | exact plain_i64 _ | exact plain_ints _ | exact all_ints _ | omega | (dsimp only; omega) | (simp; done) | (simp only [htf] at *; first | omega | (simp; omega))), ?_⟩; conv => whnf) | (refine ⟨_, rfl, ?_⟩; conv => whnf) | (first | refine iteP_true rfl ?_ | refine iteP_false rfl ?_ | refine iteP_true ‹_› ?_ | refine iteP_false ‹_› ?_; conv => whnf) | (refine And.intro (by kernel_rfl : indep _ _ = true) ?_; conv => whnf) | (refine And.intro (by rfl : List.all _ (noE _) = true) ?_; conv => whnf) | (refine And.intro (by first | exact Nat.le_of_ble_eq_true rfl | rfl | exact plain_i64 _ | exact plain_ints _ | exact all_ints _ | omega | (dsimp only; omega) | (simp; done) | (simp only [htf] at *; first | omega | (simp; omega))) ?_; conv => whnf))
      subst hds
      have hm63 : ∀ (a : Nat) (h : a < ms.length), ms[a] < 2 ^ 63 := fun a h => Nat.lt_of_lt_of_le (hm _ (List.getElem_mem h)) (Nat.pow_le_pow_right (by decide) (by omega))
      have hgd : ∀ (a : Nat) (h : a < ms.length), ms.getD a 0 = ms[a] := fun a h => by rw [List.getD_eq_getElem?_getD, List.getElem?_eq_getElem h, Option.getD_some]
      refine ⟨fun k vs => ∃ i : Nat, i ≤ ms.length ∧ (∀ a < i, (ms.getD a 0).testBit a = true ∧ ∀ b < ms.length, (ms.getD a 0).testBit b = (ms.getD b 0).testBit a) ∧
          vs = [.one (.ptr [i64 (natI ms).length, .shd (ints (natI ms))]), .one (i64 i)] ∧ k = ms.length - i, rfl, ⟨_, 0, by omega, by simp, rfl, rfl⟩, ?_⟩
      rintro k vs ⟨i, hi, hs, rfl, rfl⟩
      repeat (first | (refine ⟨_, (by simp only [nf, nl, nm, en, ints, Nat.reduceAdd, Nat.reduceMul]; exact rfl), ?_⟩; conv => whnf) | (refine ⟨_, pick_at rfl (by first | exact Nat.le_of_ble_eq_true rfl | rfl | exact plain_i64 _ | exact plain_ints _ | exact all_ints _ | omega | (dsimp only; omega) | (simp; done) | (simp only [htf] at *; first | omega | (simp; omega))), ?_⟩; conv => whnf) | (refine ⟨_, rfl, ?_⟩; conv => whnf) | (first | refine iteP_true rfl ?_ | refine iteP_false rfl ?_ | refine iteP_true ‹_› ?_ | refine iteP_false ‹_› ?_; conv => whnf) | (refine And.intro (by kernel_rfl : indep _ _ = true) ?_; conv => whnf) | (refine And.intro (by rfl : List.all _ (noE _) = true) ?_; conv => whnf) | (refine And.intro (by first | exact Nat.le_of_ble_eq_true rfl | rfl | exact plain_i64 _ | exact plain_ints _ | exact all_ints _ | omega | (dsimp only; omega) | (simp; done) | (simp only [htf] at *; first | omega | (simp; omega))) ?_; conv => whnf))
      refine iteP_intro (fun hb => ?_) (fun hb => ?_) <;> (conv => whnf)
      · have hi' : i < ms.length := by have := leT hb; omega
        have hg2 : (natI ms)[i]'(by omega) = ((ms[i] : Nat) : Int) := natI_get _
        repeat (first | (refine ⟨_, (by simp only [nf, nl, nm, en, ints, Nat.reduceAdd, Nat.reduceMul, hg2]; exact rfl), ?_⟩; conv => whnf) | (refine ⟨_, pick_at rfl (by first | exact Nat.le_of_ble_eq_true rfl | rfl | exact plain_i64 _ | exact plain_ints _ | exact all_ints _ | omega | (dsimp only; omega) | (simp; done) | (simp only [htf] at *; first | omega | (simp; omega))), ?_⟩; conv => whnf) | (refine ⟨_, rfl, ?_⟩; conv => whnf) | (first | refine iteP_true rfl ?_ | refine iteP_false rfl ?_ | refine iteP_true ‹_› ?_ | refine iteP_false ‹_› ?_; conv => whnf) | (refine And.intro (by kernel_rfl : indep _ _ = true) ?_; conv => whnf) | (refine And.intro (by rfl : List.all _ (noE _) = true) ?_; conv => whnf) | (refine And.intro (by first | exact Nat.le_of_ble_eq_true rfl | rfl | exact plain_i64 _ | exact plain_ints _ | exact all_ints _ | omega | (dsimp only; omega) | (simp; done) | (simp only [htf] at *; first | omega | (simp; omega))) ?_; conv => whnf))
        (refine ⟨_, l01Bit_ret ms[i] i (hm63 i hi') (by omega), ?_⟩; conv => whnf)
        repeat (first | (refine ⟨_, (by simp only [nf, nl, nm, en, ints, Nat.reduceAdd, Nat.reduceMul]; exact rfl), ?_⟩; conv => whnf) | (refine ⟨_, pick_at rfl (by first | exact Nat.le_of_ble_eq_true rfl | rfl | exact plain_i64 _ | exact plain_ints _ | exact all_ints _ | omega | (dsimp only; omega) | (simp; done) | (simp only [htf] at *; first | omega | (simp; omega))), ?_⟩; conv => whnf) | (refine ⟨_, rfl, ?_⟩; conv => whnf) | (first | refine iteP_true rfl ?_ | refine iteP_false rfl ?_ | refine iteP_true ‹_› ?_ | refine iteP_false ‹_› ?_; conv => whnf) | (refine And.intro (by kernel_rfl : indep _ _ = true) ?_; conv => whnf) | (refine And.intro (by rfl : List.all _ (noE _) = true) ?_; conv => whnf) | (refine And.intro (by first | exact Nat.le_of_ble_eq_true rfl | rfl | exact plain_i64 _ | exact plain_ints _ | exact all_ints _ | omega | (dsimp only; omega) | (simp; done) | (simp only [htf] at *; first | omega | (simp; omega))) ?_; conv => whnf))
        refine iteP_intro (fun hh => ?_) (fun hh => ?_) <;> (conv => whnf)
        · repeat' (first | (refine ⟨_, (by simp only [nf, nl, nm, en, ints, Nat.reduceAdd, Nat.reduceMul]; exact rfl), ?_⟩; conv => whnf) | (refine ⟨_, pick_at rfl (by first | exact Nat.le_of_ble_eq_true rfl | rfl | exact plain_i64 _ | exact plain_ints _ | exact all_ints _ | omega | (dsimp only; omega) | (simp; done) | (simp only [htf] at *; first | omega | (simp; omega))), ?_⟩; conv => whnf) | (refine ⟨_, rfl, ?_⟩; conv => whnf) | (first | refine iteP_true rfl ?_ | refine iteP_false rfl ?_ | refine iteP_true ‹_› ?_ | refine iteP_false ‹_› ?_; conv => whnf) | (refine And.intro (by kernel_rfl : indep _ _ = true) ?_; conv => whnf) | (refine And.intro (by rfl : List.all _ (noE _) = true) ?_; conv => whnf) | (refine And.intro (by first | exact Nat.le_of_ble_eq_true rfl | rfl | exact plain_i64 _ | exact plain_ints _ | exact all_ints _ | omega | (dsimp only; omega) | (simp; done) | (simp only [htf] at *; first | omega | (simp; omega))) ?_; conv => whnf) | (refine iteP_intro (fun hb => ?_) (fun hb => ?_) <;> (conv => whnf)))
          refine endB (hfin false ?_).symm
          rw [Bool.eq_false_iff]
          intro h
          have := (symOk_iff.1 h i hi').1
          rw [hgd i hi'] at this
          rw [this] at hh
          cases hh
        · repeat (first | (refine ⟨_, (by simp only [nf, nl, nm, en, ints, Nat.reduceAdd, Nat.reduceMul]; exact rfl), ?_⟩; conv => whnf) | (refine ⟨_, pick_at rfl (by first | exact Nat.le_of_ble_eq_true rfl | rfl | exact plain_i64 _ | exact plain_ints _ | exact all_ints _ | omega | (dsimp only; omega) | (simp; done) | (simp only [htf] at *; first | omega | (simp; omega))), ?_⟩; conv => whnf) | (refine ⟨_, rfl, ?_⟩; conv => whnf) | (first | refine iteP_true rfl ?_ | refine iteP_false rfl ?_ | refine iteP_true ‹_› ?_ | refine iteP_false ‹_› ?_; conv => whnf) | (refine And.intro (by kernel_rfl : indep _ _ = true) ?_; conv => whnf) | (refine And.intro (by rfl : List.all _ (noE _) = true) ?_; conv => whnf) | (refine And.intro (by first | exact Nat.le_of_ble_eq_true rfl | rfl | exact plain_i64 _ | exact plain_ints _ | exact all_ints _ | omega | (dsimp only; omega) | (simp; done) | (simp only [htf] at *; first | omega | (simp; omega))) ?_; conv => whnf))
          refine ⟨fun k vs => ∃ j : Nat, j ≤ ms.length ∧ (∀ b < j, (ms.getD i 0).testBit b = (ms.getD b 0).testBit i) ∧
              vs = [.one (.ptr [i64 (natI ms).length, .shd (ints (natI ms))]), .one (i64 i), .one (i64 j)] ∧ k = ms.length - j, rfl, ⟨_, 0, by omega, by simp, rfl, rfl⟩, ?_⟩
          rintro k vs ⟨j, hj, hsj, rfl, rfl⟩
          repeat (first | (refine ⟨_, (by simp only [nf, nl, nm, en, ints, Nat.reduceAdd, Nat.reduceMul]; exact rfl), ?_⟩; conv => whnf) | (refine ⟨_, pick_at rfl (by first | exact Nat.le_of_ble_eq_true rfl | rfl | exact plain_i64 _ | exact plain_ints _ | exact all_ints _ | omega | (dsimp only; omega) | (simp; done) | (simp only [htf] at *; first | omega | (simp; omega))), ?_⟩; conv => whnf) | (refine ⟨_, rfl, ?_⟩; conv => whnf) | (first | refine iteP_true rfl ?_ | refine iteP_false rfl ?_ | refine iteP_true ‹_› ?_ | refine iteP_false ‹_› ?_; conv => whnf) | (refine And.intro (by kernel_rfl : indep _ _ = true) ?_; conv => whnf) | (refine And.intro (by rfl : List.all _ (noE _) = true) ?_; conv => whnf) | (refine And.intro (by first | exact Nat.le_of_ble_eq_true rfl | rfl | exact plain_i64 _ | exact plain_ints _ | exact all_ints _ | omega | (dsimp only; omega) | (simp; done) | (simp only [htf] at *; first | omega | (simp; omega))) ?_; conv => whnf))
          refine iteP_intro (fun hb => ?_) (fun hb => ?_) <;> (conv => whnf)
          · have hj' : j < ms.length := by have := leT hb; omega
            have hg3 : (natI ms)[j]'(by omega) = ((ms[j] : Nat) : Int) := natI_get _
            repeat (first | (refine ⟨_, (by simp only [nf, nl, nm, en, ints, Nat.reduceAdd, Nat.reduceMul, hg2, hg3]; exact rfl), ?_⟩; conv => whnf) | (refine ⟨_, pick_at rfl (by first | exact Nat.le_of_ble_eq_true rfl | rfl | exact plain_i64 _ | exact plain_ints _ | exact all_ints _ | omega | (dsimp only; omega) | (simp; done) | (simp only [htf] at *; first | omega | (simp; omega))), ?_⟩; conv => whnf) | (refine ⟨_, rfl, ?_⟩; conv => whnf) | (first | refine iteP_true rfl ?_ | refine iteP_false rfl ?_ | refine iteP_true ‹_› ?_ | refine iteP_false ‹_› ?_; conv => whnf) | (refine And.intro (by kernel_rfl : indep _ _ = true) ?_; conv => whnf) | (refine And.intro (by rfl : List.all _ (noE _) = true) ?_; conv => whnf) | (refine And.intro (by first | exact Nat.le_of_ble_eq_true rfl | rfl | exact plain_i64 _ | exact plain_ints _ | exact all_ints _ | omega | (dsimp only; omega) | (simp; done) | (simp only [htf] at *; first | omega | (simp; omega))) ?_; conv => whnf))
            (refine ⟨_, l01Bit_ret ms[i] j (hm63 i hi') (by omega), ?_⟩; conv => whnf)
            repeat (first | (refine ⟨_, (by simp only [nf, nl, nm, en, ints, Nat.reduceAdd, Nat.reduceMul, hg2, hg3]; exact rfl), ?_⟩; conv => whnf) | (refine ⟨_, pick_at rfl (by first | exact Nat.le_of_ble_eq_true rfl | rfl | exact plain_i64 _ | exact plain_ints _ | exact all_ints _ | omega | (dsimp only; omega) | (simp; done) | (simp only [htf] at *; first | omega | (simp; omega))), ?_⟩; conv => whnf) | (refine ⟨_, rfl, ?_⟩; conv => whnf) | (first | refine iteP_true rfl ?_ | refine iteP_false rfl ?_ | refine iteP_true ‹_› ?_ | refine iteP_false ‹_› ?_; conv => whnf) | (refine And.intro (by kernel_rfl : indep _ _ = true) ?_; conv => whnf) | (refine And.intro (by rfl : List.all _ (noE _) = true) ?_; conv => whnf) | (refine And.intro (by first | exact Nat.le_of_ble_eq_true rfl | rfl | exact plain_i64 _ | exact plain_ints _ | exact all_ints _ | omega | (dsimp only; omega) | (simp; done) | (simp only [htf] at *; first | omega | (simp; omega))) ?_; conv => whnf))
            (refine ⟨_, l01Bit_ret ms[j] i (hm63 j hj') (by omega), ?_⟩; conv => whnf)
            repeat (first | (refine ⟨_, (by simp only [nf, nl, nm, en, ints, Nat.reduceAdd, Nat.reduceMul, hg2, hg3]; exact rfl), ?_⟩; conv => whnf) | (refine ⟨_, pick_at rfl (by first | exact Nat.le_of_ble_eq_true rfl | rfl | exact plain_i64 _ | exact plain_ints _ | exact all_ints _ | omega | (dsimp only; omega) | (simp; done) | (simp only [htf] at *; first | omega | (simp; omega))), ?_⟩; conv => whnf) | (refine ⟨_, rfl, ?_⟩; conv => whnf) | (first | refine iteP_true rfl ?_ | refine iteP_false rfl ?_ | refine iteP_true ‹_› ?_ | refine iteP_false ‹_› ?_; conv => whnf) | (refine And.intro (by kernel_rfl : indep _ _ = true) ?_; conv => whnf) | (refine And.intro (by rfl : List.all _ (noE _) = true) ?_; conv => whnf) | (refine And.intro (by first | exact Nat.le_of_ble_eq_true rfl | rfl | exact plain_i64 _ | exact plain_ints _ | exact all_ints _ | omega | (dsimp only; omega) | (simp; done) | (simp only [htf] at *; first | omega | (simp; omega))) ?_; conv => whnf))
            refine iteP_intro (fun hc => ?_) (fun hc => ?_) <;> (conv => whnf)
            · repeat' (first | (refine ⟨_, (by simp only [nf, nl, nm, en, ints, Nat.reduceAdd, Nat.reduceMul]; exact rfl), ?_⟩; conv => whnf) | (refine ⟨_, pick_at rfl (by first | exact Nat.le_of_ble_eq_true rfl | rfl | exact plain_i64 _ | exact plain_ints _ | exact all_ints _ | omega | (dsimp only; omega) | (simp; done) | (simp only [htf] at *; first | omega | (simp; omega))), ?_⟩; conv => whnf) | (refine ⟨_, rfl, ?_⟩; conv => whnf) | (first | refine iteP_true rfl ?_ | refine iteP_false rfl ?_ | refine iteP_true ‹_› ?_ | refine iteP_false ‹_› ?_; conv => whnf) | (refine And.intro (by kernel_rfl : indep _ _ = true) ?_; conv => whnf) | (refine And.intro (by rfl : List.all _ (noE _) = true) ?_; conv => whnf) | (refine And.intro (by first | exact Nat.le_of_ble_eq_true rfl | rfl | exact plain_i64 _ | exact plain_ints _ | exact all_ints _ | omega | (dsimp only; omega) | (simp; done) | (simp only [htf] at *; first | omega | (simp; omega))) ?_; conv => whnf) | (refine iteP_intro (fun hb => ?_) (fun hb => ?_) <;> (conv => whnf)))
              refine endB (hfin false ?_).symm
              rw [Bool.eq_false_iff]
              intro h
              have := (symOk_iff.1 h i hi').2 j hj'
              rw [hgd i hi', hgd j hj'] at this
              rw [this] at hc
              simp at hc
            · repeat (first | (refine ⟨_, (by simp only [nf, nl, nm, en, ints, Nat.reduceAdd, Nat.reduceMul]; exact rfl), ?_⟩; conv => whnf) | (refine ⟨_, pick_at rfl (by first | exact Nat.le_of_ble_eq_true rfl | rfl | exact plain_i64 _ | exact plain_ints _ | exact all_ints _ | omega | (dsimp only; omega) | (simp; done) | (simp only [htf] at *; first | omega | (simp; omega))), ?_⟩; conv => whnf) | (refine ⟨_, rfl, ?_⟩; conv => whnf) | (first | refine iteP_true rfl ?_ | refine iteP_false rfl ?_ | refine iteP_true ‹_› ?_ | refine iteP_false ‹_› ?_; conv => whnf) | (refine And.intro (by kernel_rfl : indep _ _ = true) ?_; conv => whnf) | (refine And.intro (by rfl : List.all _ (noE _) = true) ?_; conv => whnf) | (refine And.intro (by first | exact Nat.le_of_ble_eq_true rfl | rfl | exact plain_i64 _ | exact plain_ints _ | exact all_ints _ | omega | (dsimp only; omega) | (simp; done) | (simp only [htf] at *; first | omega | (simp; omega))) ?_; conv => whnf))
              refine ⟨_, ?_, j + 1, hj', fun b hb => ?_, by rw [wrap_succ (by omega)]; rfl, rfl⟩
              · omega
              · rcases Nat.lt_succ_iff_lt_or_eq.1 hb with h | rfl
                · exact hsj b h
                · rw [hgd i hi', hgd b hj']
                  simpa using hc
          · obtain rfl : j = ms.length := by have := leF hb; omega
            repeat (first | (refine ⟨_, (by simp only [nf, nl, nm, en, ints, Nat.reduceAdd, Nat.reduceMul]; exact rfl), ?_⟩; conv => whnf) | (refine ⟨_, pick_at rfl (by first | exact Nat.le_of_ble_eq_true rfl | rfl | exact plain_i64 _ | exact plain_ints _ | exact all_ints _ | omega | (dsimp only; omega) | (simp; done) | (simp only [htf] at *; first | omega | (simp; omega))), ?_⟩; conv => whnf) | (refine ⟨_, rfl, ?_⟩; conv => whnf) | (first | refine iteP_true rfl ?_ | refine iteP_false rfl ?_ | refine iteP_true ‹_› ?_ | refine iteP_false ‹_› ?_; conv => whnf) | (refine And.intro (by kernel_rfl : indep _ _ = true) ?_; conv => whnf) | (refine And.intro (by rfl : List.all _ (noE _) = true) ?_; conv => whnf) | (refine And.intro (by first | exact Nat.le_of_ble_eq_true rfl | rfl | exact plain_i64 _ | exact plain_ints _ | exact all_ints _ | omega | (dsimp only; omega) | (simp; done) | (simp only [htf] at *; first | omega | (simp; omega))) ?_; conv => whnf))
            refine ⟨_, ?_, i + 1, hi', fun a ha => ?_, by rw [wrap_succ (by omega)]; rfl, rfl⟩
            · omega
            · rcases Nat.lt_succ_iff_lt_or_eq.1 ha with h | rfl
              · exact hs a h
              · exact ⟨by rw [hgd a hi']; simpa using hh, hsj⟩
      · obtain rfl : i = ms.length := by have := leF hb; omega
        repeat' (first | (refine ⟨_, (by simp only [nf, nl, nm, en, ints, Nat.reduceAdd, Nat.reduceMul]; exact rfl), ?_⟩; conv => whnf) | (refine ⟨_, pick_at rfl (by first | exact Nat.le_of_ble_eq_true rfl | rfl | exact plain_i64 _ | exact plain_ints _ | exact all_ints _ | omega | (dsimp only; omega) | (simp; done) | (simp only [htf] at *; first | omega | (simp; omega))), ?_⟩; conv => whnf) | (refine ⟨_, rfl, ?_⟩; conv => whnf) | (first | refine iteP_true rfl ?_ | refine iteP_false rfl ?_ | refine iteP_true ‹_› ?_ | refine iteP_false ‹_› ?_; conv => whnf) | (refine And.intro (by kernel_rfl : indep _ _ = true) ?_; conv => whnf) | (refine And.intro (by rfl : List.all _ (noE _) = true) ?_; conv => whnf) | (refine And.intro (by first | exact Nat.le_of_ble_eq_true rfl | rfl | exact plain_i64 _ | exact plain_ints _ | exact all_ints _ | omega | (dsimp only; omega) | (simp; done) | (simp only [htf] at *; first | omega | (simp; omega))) ?_; conv => whnf) | (refine iteP_intro (fun hb => ?_) (fun hb => ?_) <;> (conv => whnf)))
        exact endB (hfin true (symOk_iff.2 hs)).symm
abbrev wordsC (ws : List (List Int)) : Cell := .sl false 1 ws.length (ws.map ints)
theorem alphaOk_n {n : Int} {ds : List Int} (h : alphaOk n ds = true) : 0 ≤ n ∧ n ≤ 8 ∧ (ds.length : Int) = n := by
  unfold alphaOk at h
  simp only [Bool.and_eq_true, decide_eq_true_eq] at h
  exact ⟨h.1.1.1.1, h.1.1.1.2, h.1.1.2⟩
/-- Rules: pairs of words. -/
def ruleC (r : List Int × List Int) : List Cell := [ints r.1, ints r.2]
def rulesC (rs : List (List Int × List Int)) : Cell := .sl false 2 rs.length (rs.flatMap ruleC)
theorem rules_length (rs : List (List Int × List Int)) : (rs.flatMap ruleC).length = 2 * rs.length := by
  induction rs with
  | nil => rfl
  | cons r rs ih => simp [ruleC, ih]; omega
theorem rules_drop {rs : List (List Int × List Int)} {i : Nat} (hi : i < rs.length) : (rs.flatMap ruleC).drop (i * 2) = ints rs[i].1 :: ints rs[i].2 :: (rs.drop (i + 1)).flatMap ruleC := by
  induction rs generalizing i with
  | nil => simp at hi
  | cons r rs ih =>
    cases i with
    | zero => rfl
    | succ i =>
      have := ih (i := i) (by simpa using hi)
      simp only [List.flatMap_cons, ruleC, List.cons_append, List.nil_append, List.getElem_cons_succ, List.drop_succ_cons] at this ⊢
      rw [show (i + 1) * 2 = i * 2 + 1 + 1 by omega]
      simpa using this
theorem pick_rule {rs : List (List Int × List Int)} {n : Int} {i : Nat} (hn : n = i) (hi : i < rs.length) : pickN 2 ((rs.flatMap ruleC).drop (n.toNat * 2)) = some [ints rs[i].1, ints rs[i].2] := by
  subst hn
  rw [Int.toNat_natCast, rules_drop hi]
  rfl
theorem pick_ruleL {rs : List (List Int × List Int)} {n : Int} {i : Nat} (hn : n = i) (hi : i < rs.length) : pickN 1 (((rs.flatMap ruleC).drop (n.toNat * 2)).drop 0) = some [ints rs[i].1] := by
  subst hn
  rw [Int.toNat_natCast, rules_drop hi]
  rfl
theorem pick_ruleR {rs : List (List Int × List Int)} {n : Int} {i : Nat} (hn : n = i) (hi : i < rs.length) : pickN 1 (((rs.flatMap ruleC).drop (n.toNat * 2)).drop 1) = some [ints rs[i].2] := by
  subst hn
  rw [Int.toNat_natCast, rules_drop hi]
  rfl
/-- Is it a word over n letters? -/
def wordN (n : Int) (w : List Int) : Bool := decide (w.length ≤ 24) && w.all fun x => decide (0 ≤ x ∧ x ≤ n - 1)
def ruleOk (n : Int) (r : List Int × List Int) : Bool := wordN n r.1 && wordN n r.2 && !decide ((r.2.length : Int) ≥ r.1.length)
def sysOk (n : Int) (rs : List (List Int × List Int)) : Bool := decide (rs.length ≤ 12) && rs.all (ruleOk n)
end Go.Proofs.YthlnahomjdcbeaaDoor
