import Derived.Test.YtljhmkkmcbfffaaDoorFv
set_option autoImplicit false
set_option linter.unusedSimpArgs false
set_option linter.unusedVariables false
namespace Go.Proofs.YtljhmkkmcbfffaaDoor
open Go.Den
/-- The words of a rule. -/
def ruN (us : List (List Int × List Int)) (j : Nat) : List Nat × List Nat := ((us.getD j ([], [])).1.map Int.toNat, (us.getD j ([], [])).2.map Int.toNat)
/-- What ApplyRedex answers. -/
def redR (n : Int) (ds : List Int) (us : List (List Int × List Int)) (xs : List Int) (c : Int) (ys zs : List Int) : List Nat × Int :=
  if alphaOk n ds && sysOk n us then
    (if wordN n xs && (wordN n ys && wordN n zs) then
      (if 0 ≤ c ∧ c ≤ (us.length : Int) - 1 then
        (if sameN (ds.map Int.toNat) (ys.map Int.toNat ++ (ruN us c.toNat).1 ++ zs.map Int.toNat) (xs.map Int.toNat) then (nform (ds.map Int.toNat) (ys.map Int.toNat ++ (ruN us c.toNat).2 ++ zs.map Int.toNat), 0) else ([], 5))
        else ([], 2))
      else ([], 2))
    else ([], 1)
section
variable {n : Int} {ds : List Int} {us : List (List Int × List Int)} {xs : List Int} {c : Int} {ys zs : List Int}
theorem redR_1 (h : (alphaOk n ds && sysOk n us) = false) : redR n ds us xs c ys zs = ([], 1) := by
  unfold redR
  rw [if_neg (by rw [h]; simp)]
theorem redR_2 (h : (alphaOk n ds && sysOk n us) = true) (hw : (wordN n xs && (wordN n ys && wordN n zs)) = false) : redR n ds us xs c ys zs = ([], 2) := by
  unfold redR
  rw [if_pos h, if_neg (by rw [hw]; simp)]
theorem redR_3 (h : (alphaOk n ds && sysOk n us) = true) (hw : (wordN n xs && (wordN n ys && wordN n zs)) = true) (hc : ¬ (0 ≤ c ∧ c ≤ (us.length : Int) - 1)) : redR n ds us xs c ys zs = ([], 2) := by
  unfold redR
  rw [if_pos h, if_pos hw, if_neg hc]
theorem redR_4 (h : (alphaOk n ds && sysOk n us) = true) (hw : (wordN n xs && (wordN n ys && wordN n zs)) = true) (hc : 0 ≤ c ∧ c ≤ (us.length : Int) - 1) {ms w y z l r : List Nat} (e1 : ds.map Int.toNat = ms) (e2 : xs.map Int.toNat = w) (e3 : ys.map Int.toNat = y) (e4 : zs.map Int.toNat = z) (e5 : ruN us c.toNat = (l, r)) :
    redR n ds us xs c ys zs = if sameN ms (y ++ l ++ z) w then (nform ms (y ++ r ++ z), 0) else ([], 5) := by
  unfold redR
  rw [if_pos h, if_pos hw, if_pos hc, e1, e2, e3, e4, e5]
end
theorem redR_nz {n : Int} {ds : List Int} {us : List (List Int × List Int)} {xs : List Int} {c : Int} {ys zs : List Int} (h : (redR n ds us xs c ys zs).2 ≠ 0) : (redR n ds us xs c ys zs).1 = [] := by
  unfold redR at h ⊢
  split
  · rename_i h1
    rw [if_pos h1] at h
    split
    · rename_i h2
      rw [if_pos h2] at h
      split
      · rename_i h3
        rw [if_pos h3] at h
        split
        · rename_i h4
          rw [if_pos h4] at h
          exact absurd rfl h
        · rfl
      · rfl
    · rfl
  · rfl
theorem redR_le (n : Int) (ds : List Int) (us : List (List Int × List Int)) (xs : List Int) (c : Int) (ys zs : List Int) : (redR n ds us xs c ys zs).2 ≠ 0 → OLe nilS (ints (natI (redR n ds us xs c ys zs).1)) := fun h => ints_nil_le (redR_nz h)
/-- What a redex that may be applied is made of. -/
theorem red_ok {n : Int} {ds : List Int} {us : List (List Int × List Int)} {xs : List Int} {c : Int} {ys zs : List Int} (h : (alphaOk n ds && sysOk n us) = true) (hw : (wordN n xs && (wordN n ys && wordN n zs)) = true) (hc : 0 ≤ c ∧ c ≤ (us.length : Int) - 1) :
    ∃ (ms w y z l r : List Nat) (j : Nat), ds.map Int.toNat = ms ∧ xs.map Int.toNat = w ∧ ys.map Int.toNat = y ∧ zs.map Int.toNat = z ∧ ruN us c.toNat = (l, r) ∧ c = j ∧ (∃ h : j < us.length, us[j].1 = natI l ∧ us[j].2 = natI r) ∧
      n = ms.length ∧ ds = natI ms ∧ ms.length ≤ 8 ∧ Alpha ms ∧ xs = natI w ∧ ys = natI y ∧ zs = natI z ∧ Wd ms w ∧ Wd ms y ∧ Wd ms z ∧ Wd ms l ∧ Wd ms r ∧ w.length ≤ 24 ∧ y.length ≤ 24 ∧ z.length ≤ 24 ∧ l.length ≤ 24 ∧ r.length ≤ 24 := by
  simp only [Bool.and_eq_true] at h hw
  obtain ⟨h1, h2⟩ := h
  obtain ⟨hx, hy, hz⟩ := hw
  obtain ⟨ms, e1, rfl, rfl, hl, hA⟩ := alpha_ok h1
  obtain ⟨w, e2, rfl, hwl, hwd⟩ := word_nat hx
  obtain ⟨y, e3, rfl, hyl, hyd⟩ := word_nat hy
  obtain ⟨z, e4, rfl, hzl, hzd⟩ := word_nat hz
  obtain ⟨j, rfl⟩ : ∃ j : Nat, c = j := ⟨c.toNat, by omega⟩
  have hj : j < us.length := by omega
  unfold sysOk at h2
  rw [Bool.and_eq_true, List.all_eq_true] at h2
  have hr := h2.2 us[j] (List.getElem_mem hj)
  unfold ruleOk at hr
  simp only [Bool.and_eq_true] at hr
  obtain ⟨l, e5, h5, hll, hld⟩ := word_nat hr.1.1
  obtain ⟨r, e6, h6, hrl, hrd⟩ := word_nat hr.1.2
  have hu : ruN us j = (l, r) := by
    unfold ruN
    rw [List.getD_eq_getElem?_getD, List.getElem?_eq_getElem hj, Option.getD_some, e5, e6]
  exact ⟨ms, w, y, z, l, r, j, e1, e2, e3, e4, by rw [Int.toNat_natCast]; exact hu, rfl, ⟨hj, h5, h6⟩, rfl, rfl, hl, hA, rfl, rfl, rfl, word_wd hwd, word_wd hyd, word_wd hzd, word_wd hld, word_wd hrd, hwl, hyl, hzl, hll, hrl⟩
theorem redR_len (n : Int) (ds : List Int) (us : List (List Int × List Int)) (xs : List Int) (c : Int) (ys zs : List Int) : (natI (redR n ds us xs c ys zs).1).length ≤ 72 := by
  rw [natI_length]
  cases h : (alphaOk n ds && sysOk n us) with
  | false => rw [redR_1 h]; simp
  | true =>
    cases hw : (wordN n xs && (wordN n ys && wordN n zs)) with
    | false => rw [redR_2 h hw]; simp
    | true =>
      by_cases hc : 0 ≤ c ∧ c ≤ (us.length : Int) - 1
      · obtain ⟨ms, w, y, z, l, r, j, e1, e2, e3, e4, e5, rfl, ⟨hj, h5, h6⟩, rfl, rfl, hl, hA, rfl, rfl, rfl, hw1, hw2, hw3, hw4, hw5, l1, l2, l3, l4, l5⟩ := red_ok h hw hc
        rw [redR_4 h hw hc e1 e2 e3 e4 e5]
        split
        · dsimp only
          rw [nform_length hA ((hw2.append hw5).append hw3), List.length_append, List.length_append]
          omega
        · simp
      · rw [redR_3 h hw hc]; simp
set_option maxHeartbeats 4000000 in
set_option maxRecDepth 100000 in
theorem l10Code_ret (n : Int) (ds : List Int) (us : List (List Int × List Int)) (u v : List Int) (hd : ds.length < 2 ^ 62) (hw : us.length < 2 ^ 62) (hx : ∀ r ∈ us, r.1.length < 2 ^ 62 ∧ r.2.length < 2 ^ 62) (hu : u.length < 2 ^ 62) (hv : v.length < 2 ^ 62) : Ret Tryd.prog G0 95 [⟨.ro, .agg [i64 n, ints ds]⟩, ⟨.ro, .one (rulesC us)⟩, ⟨.ro, .one (ints u)⟩, ⟨.ro, .one (ints v)⟩] ⟨.one (i64 (wcode (alphaOk n ds && sysOk n us) (wordN n u && wordN n v))), []⟩ := by
  have hs := l10Sys_ret n ds us hd hw hx
  unfold rulesC at hs ⊢
  (refine ret_of_den (E := en 25 [] (fun _ => []) (fun _ => [])) tt_ok mixed Tryd.func95 rfl rfl rfl rfl ?_; refine ⟨by simp, ?_⟩)
  repeat' (first | (refine opt_some (getC_rows rfl rfl (by omega)) ?_; conv => whnf) | (refine opt_some (by dsimp only; exact getC_lent rfl rfl (by omega)) ?_; conv => whnf) | (refine opt_some rfl ?_; conv => whnf) | (refine ⟨_, (by simp only [nf, nl, nm, en, ints, setC_setC, Nat.reduceAdd, Nat.reduceMul]; exact rfl), ?_⟩; conv => whnf) | (refine ⟨_, pick_at rfl (by first | omega | (simp only [plain_i64, plain_ints, plain_nil, all_ints]; done) | (dsimp only; omega) | exact Nat.le_of_ble_eq_true rfl | rfl | (simp; done) | (simp only [htf] at *; first | omega | (simp; omega))), ?_⟩; conv => whnf) | (refine ⟨_, rfl, ?_⟩; conv => whnf) | (first | refine iteP_true rfl ?_ | refine iteP_false rfl ?_ | refine iteP_true ‹_› ?_ | refine iteP_false ‹_› ?_; conv => whnf) | (refine And.intro (by kernel_rfl : indep _ _ = true) ?_; conv => whnf) | (refine And.intro (by rfl : List.all _ _ = true) ?_; conv => whnf) | (refine And.intro (by first | omega | (simp only [plain_i64, plain_ints, plain_nil, all_ints]; done) | (dsimp only; omega) | exact Nat.le_of_ble_eq_true rfl | rfl | (simp; done) | (simp only [htf] at *; first | omega | (simp; omega))) ?_; conv => whnf) | (refine iteP_intro (fun hb => ?_) (fun hb => ?_) <;> (conv => whnf)))
  (refine ⟨_, hs, ?_⟩; conv => whnf)
  cases h1 : (alphaOk n ds && sysOk n us) with
  | false =>
    repeat' (first | (refine opt_some (getC_rows rfl rfl (by omega)) ?_; conv => whnf) | (refine opt_some (by dsimp only; exact getC_lent rfl rfl (by omega)) ?_; conv => whnf) | (refine opt_some rfl ?_; conv => whnf) | (refine ⟨_, (by simp only [nf, nl, nm, en, ints, setC_setC, Nat.reduceAdd, Nat.reduceMul]; exact rfl), ?_⟩; conv => whnf) | (refine ⟨_, pick_at rfl (by first | omega | (simp only [plain_i64, plain_ints, plain_nil, all_ints]; done) | (dsimp only; omega) | exact Nat.le_of_ble_eq_true rfl | rfl | (simp; done) | (simp only [htf] at *; first | omega | (simp; omega))), ?_⟩; conv => whnf) | (refine ⟨_, rfl, ?_⟩; conv => whnf) | (first | refine iteP_true rfl ?_ | refine iteP_false rfl ?_ | refine iteP_true ‹_› ?_ | refine iteP_false ‹_› ?_; conv => whnf) | (refine And.intro (by kernel_rfl : indep _ _ = true) ?_; conv => whnf) | (refine And.intro (by rfl : List.all _ _ = true) ?_; conv => whnf) | (refine And.intro (by first | omega | (simp only [plain_i64, plain_ints, plain_nil, all_ints]; done) | (dsimp only; omega) | exact Nat.le_of_ble_eq_true rfl | rfl | (simp; done) | (simp only [htf] at *; first | omega | (simp; omega))) ?_; conv => whnf) | (refine iteP_intro (fun hb => ?_) (fun hb => ?_) <;> (conv => whnf)))
    rfl
  | true =>
    have hn := alphaOk_n (Bool.and_eq_true_iff.1 h1).1
    have hw1 := l03Word_ret n u hu (by omega) (by omega)
    have hw2 := l03Word_ret n v hv (by omega) (by omega)
    rw [wcode_t]
    repeat' (first | (refine opt_some (getC_rows rfl rfl (by omega)) ?_; conv => whnf) | (refine opt_some (by dsimp only; exact getC_lent rfl rfl (by omega)) ?_; conv => whnf) | (refine opt_some rfl ?_; conv => whnf) | (refine ⟨_, (by simp only [nf, nl, nm, en, ints, setC_setC, Nat.reduceAdd, Nat.reduceMul]; exact rfl), ?_⟩; conv => whnf) | (refine ⟨_, pick_at rfl (by first | omega | (simp only [plain_i64, plain_ints, plain_nil, all_ints]; done) | (dsimp only; omega) | exact Nat.le_of_ble_eq_true rfl | rfl | (simp; done) | (simp only [htf] at *; first | omega | (simp; omega))), ?_⟩; conv => whnf) | (refine ⟨_, rfl, ?_⟩; conv => whnf) | (first | refine iteP_true rfl ?_ | refine iteP_false rfl ?_ | refine iteP_true ‹_› ?_ | refine iteP_false ‹_› ?_; conv => whnf) | (refine And.intro (by kernel_rfl : indep _ _ = true) ?_; conv => whnf) | (refine And.intro (by rfl : List.all _ _ = true) ?_; conv => whnf) | (refine And.intro (by first | omega | (simp only [plain_i64, plain_ints, plain_nil, all_ints]; done) | (dsimp only; omega) | exact Nat.le_of_ble_eq_true rfl | rfl | (simp; done) | (simp only [htf] at *; first | omega | (simp; omega))) ?_; conv => whnf) | (refine iteP_intro (fun hb => ?_) (fun hb => ?_) <;> (conv => whnf)))
    (refine ⟨_, hw1, ?_⟩; conv => whnf)
    cases wordN n u with
    | false =>
      repeat' (first | (refine opt_some (getC_rows rfl rfl (by omega)) ?_; conv => whnf) | (refine opt_some (by dsimp only; exact getC_lent rfl rfl (by omega)) ?_; conv => whnf) | (refine opt_some rfl ?_; conv => whnf) | (refine ⟨_, (by simp only [nf, nl, nm, en, ints, setC_setC, Nat.reduceAdd, Nat.reduceMul]; exact rfl), ?_⟩; conv => whnf) | (refine ⟨_, pick_at rfl (by first | omega | (simp only [plain_i64, plain_ints, plain_nil, all_ints]; done) | (dsimp only; omega) | exact Nat.le_of_ble_eq_true rfl | rfl | (simp; done) | (simp only [htf] at *; first | omega | (simp; omega))), ?_⟩; conv => whnf) | (refine ⟨_, rfl, ?_⟩; conv => whnf) | (first | refine iteP_true rfl ?_ | refine iteP_false rfl ?_ | refine iteP_true ‹_› ?_ | refine iteP_false ‹_› ?_; conv => whnf) | (refine And.intro (by kernel_rfl : indep _ _ = true) ?_; conv => whnf) | (refine And.intro (by rfl : List.all _ _ = true) ?_; conv => whnf) | (refine And.intro (by first | omega | (simp only [plain_i64, plain_ints, plain_nil, all_ints]; done) | (dsimp only; omega) | exact Nat.le_of_ble_eq_true rfl | rfl | (simp; done) | (simp only [htf] at *; first | omega | (simp; omega))) ?_; conv => whnf) | (refine iteP_intro (fun hb => ?_) (fun hb => ?_) <;> (conv => whnf)))
      rfl
    | true =>
      repeat' (first | (refine opt_some (getC_rows rfl rfl (by omega)) ?_; conv => whnf) | (refine opt_some (by dsimp only; exact getC_lent rfl rfl (by omega)) ?_; conv => whnf) | (refine opt_some rfl ?_; conv => whnf) | (refine ⟨_, (by simp only [nf, nl, nm, en, ints, setC_setC, Nat.reduceAdd, Nat.reduceMul]; exact rfl), ?_⟩; conv => whnf) | (refine ⟨_, pick_at rfl (by first | omega | (simp only [plain_i64, plain_ints, plain_nil, all_ints]; done) | (dsimp only; omega) | exact Nat.le_of_ble_eq_true rfl | rfl | (simp; done) | (simp only [htf] at *; first | omega | (simp; omega))), ?_⟩; conv => whnf) | (refine ⟨_, rfl, ?_⟩; conv => whnf) | (first | refine iteP_true rfl ?_ | refine iteP_false rfl ?_ | refine iteP_true ‹_› ?_ | refine iteP_false ‹_› ?_; conv => whnf) | (refine And.intro (by kernel_rfl : indep _ _ = true) ?_; conv => whnf) | (refine And.intro (by rfl : List.all _ _ = true) ?_; conv => whnf) | (refine And.intro (by first | omega | (simp only [plain_i64, plain_ints, plain_nil, all_ints]; done) | (dsimp only; omega) | exact Nat.le_of_ble_eq_true rfl | rfl | (simp; done) | (simp only [htf] at *; first | omega | (simp; omega))) ?_; conv => whnf) | (refine iteP_intro (fun hb => ?_) (fun hb => ?_) <;> (conv => whnf)))
      (refine ⟨_, hw2, ?_⟩; conv => whnf)
      cases wordN n v with
      | false =>
        repeat' (first | (refine opt_some (getC_rows rfl rfl (by omega)) ?_; conv => whnf) | (refine opt_some (by dsimp only; exact getC_lent rfl rfl (by omega)) ?_; conv => whnf) | (refine opt_some rfl ?_; conv => whnf) | (refine ⟨_, (by simp only [nf, nl, nm, en, ints, setC_setC, Nat.reduceAdd, Nat.reduceMul]; exact rfl), ?_⟩; conv => whnf) | (refine ⟨_, pick_at rfl (by first | omega | (simp only [plain_i64, plain_ints, plain_nil, all_ints]; done) | (dsimp only; omega) | exact Nat.le_of_ble_eq_true rfl | rfl | (simp; done) | (simp only [htf] at *; first | omega | (simp; omega))), ?_⟩; conv => whnf) | (refine ⟨_, rfl, ?_⟩; conv => whnf) | (first | refine iteP_true rfl ?_ | refine iteP_false rfl ?_ | refine iteP_true ‹_› ?_ | refine iteP_false ‹_› ?_; conv => whnf) | (refine And.intro (by kernel_rfl : indep _ _ = true) ?_; conv => whnf) | (refine And.intro (by rfl : List.all _ _ = true) ?_; conv => whnf) | (refine And.intro (by first | omega | (simp only [plain_i64, plain_ints, plain_nil, all_ints]; done) | (dsimp only; omega) | exact Nat.le_of_ble_eq_true rfl | rfl | (simp; done) | (simp only [htf] at *; first | omega | (simp; omega))) ?_; conv => whnf) | (refine iteP_intro (fun hb => ?_) (fun hb => ?_) <;> (conv => whnf)))
        rfl
      | true =>
        repeat' (first | (refine opt_some (getC_rows rfl rfl (by omega)) ?_; conv => whnf) | (refine opt_some (by dsimp only; exact getC_lent rfl rfl (by omega)) ?_; conv => whnf) | (refine opt_some rfl ?_; conv => whnf) | (refine ⟨_, (by simp only [nf, nl, nm, en, ints, setC_setC, Nat.reduceAdd, Nat.reduceMul]; exact rfl), ?_⟩; conv => whnf) | (refine ⟨_, pick_at rfl (by first | omega | (simp only [plain_i64, plain_ints, plain_nil, all_ints]; done) | (dsimp only; omega) | exact Nat.le_of_ble_eq_true rfl | rfl | (simp; done) | (simp only [htf] at *; first | omega | (simp; omega))), ?_⟩; conv => whnf) | (refine ⟨_, rfl, ?_⟩; conv => whnf) | (first | refine iteP_true rfl ?_ | refine iteP_false rfl ?_ | refine iteP_true ‹_› ?_ | refine iteP_false ‹_› ?_; conv => whnf) | (refine And.intro (by kernel_rfl : indep _ _ = true) ?_; conv => whnf) | (refine And.intro (by rfl : List.all _ _ = true) ?_; conv => whnf) | (refine And.intro (by first | omega | (simp only [plain_i64, plain_ints, plain_nil, all_ints]; done) | (dsimp only; omega) | exact Nat.le_of_ble_eq_true rfl | rfl | (simp; done) | (simp only [htf] at *; first | omega | (simp; omega))) ?_; conv => whnf) | (refine iteP_intro (fun hb => ?_) (fun hb => ?_) <;> (conv => whnf)))
        rfl
set_option maxHeartbeats 4000000 in
set_option maxRecDepth 100000 in
theorem checkSys_ret (n : Int) (ds : List Int) (us : List (List Int × List Int)) (ws : List (List Int)) (hd : ds.length < 2 ^ 62) (hw : us.length < 2 ^ 62) (hx : ∀ r ∈ us, r.1.length < 2 ^ 62 ∧ r.2.length < 2 ^ 62) (hwl : ws.length < 2 ^ 62) (hws : ∀ w ∈ ws, w.length < 2 ^ 62) : Ret Tryd.prog G0 99 [⟨.ro, .agg [i64 n, ints ds]⟩, ⟨.ro, .one (rulesC us)⟩, ⟨.ro, .one (rowsI ws)⟩] ⟨.one (i64 (wcode (alphaOk n ds && sysOk n us) (ws.all fun w => wordN n w))), []⟩ := by
  have hs := isSysI_ret n ds us hd hw hx
  have hc := checkWords_ret n ds ws hd hwl hws
  unfold rulesC at hs ⊢
  unfold rowsI at hc ⊢
  (refine ret_of_den (E := en 14 [] (fun _ => []) (fun _ => [])) tt_ok mixed Tryd.func99 rfl rfl rfl rfl ?_; refine ⟨by simp, ?_⟩)
  repeat' (first | (refine opt_some (getC_rows rfl rfl (by omega)) ?_; conv => whnf) | (refine opt_some (by dsimp only; exact getC_lent rfl rfl (by omega)) ?_; conv => whnf) | (refine opt_some rfl ?_; conv => whnf) | (refine ⟨_, (by simp only [nf, nl, nm, en, ints, setC_setC, Nat.reduceAdd, Nat.reduceMul]; exact rfl), ?_⟩; conv => whnf) | (refine ⟨_, pick_at rfl (by first | omega | (simp only [plain_i64, plain_ints, plain_nil, all_ints]; done) | (dsimp only; omega) | exact Nat.le_of_ble_eq_true rfl | rfl | (simp; done) | (simp only [htf] at *; first | omega | (simp; omega))), ?_⟩; conv => whnf) | (refine ⟨_, rfl, ?_⟩; conv => whnf) | (first | refine iteP_true rfl ?_ | refine iteP_false rfl ?_ | refine iteP_true ‹_› ?_ | refine iteP_false ‹_› ?_; conv => whnf) | (refine And.intro (by kernel_rfl : indep _ _ = true) ?_; conv => whnf) | (refine And.intro (by rfl : List.all _ _ = true) ?_; conv => whnf) | (refine And.intro (by first | omega | (simp only [plain_i64, plain_ints, plain_nil, all_ints]; done) | (dsimp only; omega) | exact Nat.le_of_ble_eq_true rfl | rfl | (simp; done) | (simp only [htf] at *; first | omega | (simp; omega))) ?_; conv => whnf) | (refine iteP_intro (fun hb => ?_) (fun hb => ?_) <;> (conv => whnf)))
  (refine ⟨_, hs, ?_⟩; conv => whnf)
  cases h1 : (alphaOk n ds && sysOk n us) with
  | false =>
    repeat' (first | (refine opt_some (getC_rows rfl rfl (by omega)) ?_; conv => whnf) | (refine opt_some (by dsimp only; exact getC_lent rfl rfl (by omega)) ?_; conv => whnf) | (refine opt_some rfl ?_; conv => whnf) | (refine ⟨_, (by simp only [nf, nl, nm, en, ints, setC_setC, Nat.reduceAdd, Nat.reduceMul]; exact rfl), ?_⟩; conv => whnf) | (refine ⟨_, pick_at rfl (by first | omega | (simp only [plain_i64, plain_ints, plain_nil, all_ints]; done) | (dsimp only; omega) | exact Nat.le_of_ble_eq_true rfl | rfl | (simp; done) | (simp only [htf] at *; first | omega | (simp; omega))), ?_⟩; conv => whnf) | (refine ⟨_, rfl, ?_⟩; conv => whnf) | (first | refine iteP_true rfl ?_ | refine iteP_false rfl ?_ | refine iteP_true ‹_› ?_ | refine iteP_false ‹_› ?_; conv => whnf) | (refine And.intro (by kernel_rfl : indep _ _ = true) ?_; conv => whnf) | (refine And.intro (by rfl : List.all _ _ = true) ?_; conv => whnf) | (refine And.intro (by first | omega | (simp only [plain_i64, plain_ints, plain_nil, all_ints]; done) | (dsimp only; omega) | exact Nat.le_of_ble_eq_true rfl | rfl | (simp; done) | (simp only [htf] at *; first | omega | (simp; omega))) ?_; conv => whnf) | (refine iteP_intro (fun hb => ?_) (fun hb => ?_) <;> (conv => whnf)))
    rfl
  | true =>
    rw [(Bool.and_eq_true_iff.1 h1).1] at hc
    repeat' (first | (refine opt_some (getC_rows rfl rfl (by omega)) ?_; conv => whnf) | (refine opt_some (by dsimp only; exact getC_lent rfl rfl (by omega)) ?_; conv => whnf) | (refine opt_some rfl ?_; conv => whnf) | (refine ⟨_, (by simp only [nf, nl, nm, en, ints, setC_setC, Nat.reduceAdd, Nat.reduceMul]; exact rfl), ?_⟩; conv => whnf) | (refine ⟨_, pick_at rfl (by first | omega | (simp only [plain_i64, plain_ints, plain_nil, all_ints]; done) | (dsimp only; omega) | exact Nat.le_of_ble_eq_true rfl | rfl | (simp; done) | (simp only [htf] at *; first | omega | (simp; omega))), ?_⟩; conv => whnf) | (refine ⟨_, rfl, ?_⟩; conv => whnf) | (first | refine iteP_true rfl ?_ | refine iteP_false rfl ?_ | refine iteP_true ‹_› ?_ | refine iteP_false ‹_› ?_; conv => whnf) | (refine And.intro (by kernel_rfl : indep _ _ = true) ?_; conv => whnf) | (refine And.intro (by rfl : List.all _ _ = true) ?_; conv => whnf) | (refine And.intro (by first | omega | (simp only [plain_i64, plain_ints, plain_nil, all_ints]; done) | (dsimp only; omega) | exact Nat.le_of_ble_eq_true rfl | rfl | (simp; done) | (simp only [htf] at *; first | omega | (simp; omega))) ?_; conv => whnf) | (refine iteP_intro (fun hb => ?_) (fun hb => ?_) <;> (conv => whnf)))
    (refine ⟨_, hc, ?_⟩; conv => whnf)
    repeat' (first | (refine opt_some (getC_rows rfl rfl (by omega)) ?_; conv => whnf) | (refine opt_some (by dsimp only; exact getC_lent rfl rfl (by omega)) ?_; conv => whnf) | (refine opt_some rfl ?_; conv => whnf) | (refine ⟨_, (by simp only [nf, nl, nm, en, ints, setC_setC, Nat.reduceAdd, Nat.reduceMul]; exact rfl), ?_⟩; conv => whnf) | (refine ⟨_, pick_at rfl (by first | omega | (simp only [plain_i64, plain_ints, plain_nil, all_ints]; done) | (dsimp only; omega) | exact Nat.le_of_ble_eq_true rfl | rfl | (simp; done) | (simp only [htf] at *; first | omega | (simp; omega))), ?_⟩; conv => whnf) | (refine ⟨_, rfl, ?_⟩; conv => whnf) | (first | refine iteP_true rfl ?_ | refine iteP_false rfl ?_ | refine iteP_true ‹_› ?_ | refine iteP_false ‹_› ?_; conv => whnf) | (refine And.intro (by kernel_rfl : indep _ _ = true) ?_; conv => whnf) | (refine And.intro (by rfl : List.all _ _ = true) ?_; conv => whnf) | (refine And.intro (by first | omega | (simp only [plain_i64, plain_ints, plain_nil, all_ints]; done) | (dsimp only; omega) | exact Nat.le_of_ble_eq_true rfl | rfl | (simp; done) | (simp only [htf] at *; first | omega | (simp; omega))) ?_; conv => whnf) | (refine iteP_intro (fun hb => ?_) (fun hb => ?_) <;> (conv => whnf)))
    rfl
set_option maxHeartbeats 4000000 in
set_option maxRecDepth 100000 in
theorem lengthU_ret (us : List (List Int × List Int)) : Ret Tryd.prog G0 100 [⟨.ro, .one (rulesC us)⟩] ⟨.one (i64 us.length), []⟩ := by
  unfold rulesC
  (refine ret_of_den (E := en 5 [] (fun _ => []) (fun _ => [])) tt_ok mixed Tryd.func100 rfl rfl rfl rfl ?_; refine ⟨by simp, ?_⟩)
  repeat' (first | (refine opt_some (getC_rows rfl rfl (by omega)) ?_; conv => whnf) | (refine opt_some (by dsimp only; exact getC_lent rfl rfl (by omega)) ?_; conv => whnf) | (refine opt_some rfl ?_; conv => whnf) | (refine ⟨_, (by simp only [nf, nl, nm, en, ints, setC_setC, Nat.reduceAdd, Nat.reduceMul]; exact rfl), ?_⟩; conv => whnf) | (refine ⟨_, pick_at rfl (by first | omega | (simp only [plain_i64, plain_ints, plain_nil, all_ints]; done) | (dsimp only; omega) | exact Nat.le_of_ble_eq_true rfl | rfl | (simp; done) | (simp only [htf] at *; first | omega | (simp; omega))), ?_⟩; conv => whnf) | (refine ⟨_, rfl, ?_⟩; conv => whnf) | (first | refine iteP_true rfl ?_ | refine iteP_false rfl ?_ | refine iteP_true ‹_› ?_ | refine iteP_false ‹_› ?_; conv => whnf) | (refine And.intro (by kernel_rfl : indep _ _ = true) ?_; conv => whnf) | (refine And.intro (by rfl : List.all _ _ = true) ?_; conv => whnf) | (refine And.intro (by first | omega | (simp only [plain_i64, plain_ints, plain_nil, all_ints]; done) | (dsimp only; omega) | exact Nat.le_of_ble_eq_true rfl | rfl | (simp; done) | (simp only [htf] at *; first | omega | (simp; omega))) ?_; conv => whnf) | (refine iteP_intro (fun hb => ?_) (fun hb => ?_) <;> (conv => whnf)))
  rfl
set_option maxHeartbeats 4000000 in
set_option maxRecDepth 100000 in
theorem reduct_ret (ms y z r : List Nat) (us : List (List Int × List Int)) (j : Nat) (hj : j < us.length) (hr : us[j].2 = natI r) (hA : Alpha ms) (hl : ms.length ≤ 16) (hy : Wd ms y) (hz : Wd ms z) (hrw : Wd ms r) (l1 : y.length ≤ 2 ^ 20) (l2 : z.length ≤ 2 ^ 20) (l3 : r.length ≤ 2 ^ 20) : Ret Tryd.prog G0 103 [⟨.ro, .one (ints (natI ms))⟩, ⟨.ro, .one (rulesC us)⟩, ⟨.ro, .agg [i64 j, ints (natI y), ints (natI z)]⟩] ⟨.one (ints (natI (nform ms (y ++ r ++ z)))), []⟩ := by
  have hcc := concat_ret [natI y, natI r, natI z] (by simp) (by simp [tot, natI_length]; omega)
  rw [show [natI y, natI r, natI z].flatten = natI (y ++ r ++ z) by simp [natI_append]] at hcc
  have hno := normal_ret ms (y ++ r ++ z) hA hl ((hy.append hrw).append hz) (by rw [List.length_append, List.length_append]; omega)
  unfold rowsI at hcc
  unfold rulesC
  (refine ret_of_den (E := en 21 [] (fun _ => []) (fun _ => [])) tt_ok mixed Tryd.func103 rfl rfl rfl rfl ?_; refine ⟨by simp, ?_⟩)
  repeat' (first | (refine opt_some (getC_rows rfl rfl (by omega)) ?_; conv => whnf) | (refine opt_some (by dsimp only; exact getC_lent rfl rfl (by omega)) ?_; conv => whnf) | (refine opt_some rfl ?_; conv => whnf) | (refine ⟨_, (by simp only [nf, nl, nm, en, ints, setC_setC, Nat.reduceAdd, Nat.reduceMul]; exact rfl), ?_⟩; conv => whnf) | (refine ⟨_, pick_at rfl (by first | omega | (simp only [plain_i64, plain_ints, plain_nil, all_ints]; done) | (dsimp only; omega) | exact Nat.le_of_ble_eq_true rfl | rfl | (simp; done) | (simp only [htf] at *; first | omega | (simp; omega))), ?_⟩; conv => whnf) | (refine ⟨_, rfl, ?_⟩; conv => whnf) | (first | refine iteP_true rfl ?_ | refine iteP_false rfl ?_ | refine iteP_true ‹_› ?_ | refine iteP_false ‹_› ?_; conv => whnf) | (refine And.intro (by kernel_rfl : indep _ _ = true) ?_; conv => whnf) | (refine And.intro (by rfl : List.all _ _ = true) ?_; conv => whnf) | (refine And.intro (by first | omega | (simp only [plain_i64, plain_ints, plain_nil, all_ints]; done) | (dsimp only; omega) | exact Nat.le_of_ble_eq_true rfl | rfl | (simp; done) | (simp only [htf] at *; first | omega | (simp; omega))) ?_; conv => whnf) | (refine And.intro (by rw [Int.toNat_natCast, rules_drop hj]; simp) ?_; conv => whnf) | (refine ⟨_, pick_ruleL rfl hj, ?_⟩; conv => whnf) | (refine ⟨_, pick_ruleR rfl hj, ?_⟩; conv => whnf) | (refine iteP_intro (fun hb => ?_) (fun hb => ?_) <;> (conv => whnf)))
  rw [hr]
  (refine ⟨_, hcc, ?_⟩; conv => whnf)
  repeat' (first | (refine opt_some (getC_rows rfl rfl (by omega)) ?_; conv => whnf) | (refine opt_some (by dsimp only; exact getC_lent rfl rfl (by omega)) ?_; conv => whnf) | (refine opt_some rfl ?_; conv => whnf) | (refine ⟨_, (by simp only [nf, nl, nm, en, ints, setC_setC, Nat.reduceAdd, Nat.reduceMul]; exact rfl), ?_⟩; conv => whnf) | (refine ⟨_, pick_at rfl (by first | omega | (simp only [plain_i64, plain_ints, plain_nil, all_ints]; done) | (dsimp only; omega) | exact Nat.le_of_ble_eq_true rfl | rfl | (simp; done) | (simp only [htf] at *; first | omega | (simp; omega))), ?_⟩; conv => whnf) | (refine ⟨_, rfl, ?_⟩; conv => whnf) | (first | refine iteP_true rfl ?_ | refine iteP_false rfl ?_ | refine iteP_true ‹_› ?_ | refine iteP_false ‹_› ?_; conv => whnf) | (refine And.intro (by kernel_rfl : indep _ _ = true) ?_; conv => whnf) | (refine And.intro (by rfl : List.all _ _ = true) ?_; conv => whnf) | (refine And.intro (by first | omega | (simp only [plain_i64, plain_ints, plain_nil, all_ints]; done) | (dsimp only; omega) | exact Nat.le_of_ble_eq_true rfl | rfl | (simp; done) | (simp only [htf] at *; first | omega | (simp; omega))) ?_; conv => whnf) | (refine iteP_intro (fun hb => ?_) (fun hb => ?_) <;> (conv => whnf)))
  (refine ⟨_, hno, ?_⟩; conv => whnf)
  repeat' (first | (refine opt_some (getC_rows rfl rfl (by omega)) ?_; conv => whnf) | (refine opt_some (by dsimp only; exact getC_lent rfl rfl (by omega)) ?_; conv => whnf) | (refine opt_some rfl ?_; conv => whnf) | (refine ⟨_, (by simp only [nf, nl, nm, en, ints, setC_setC, Nat.reduceAdd, Nat.reduceMul]; exact rfl), ?_⟩; conv => whnf) | (refine ⟨_, pick_at rfl (by first | omega | (simp only [plain_i64, plain_ints, plain_nil, all_ints]; done) | (dsimp only; omega) | exact Nat.le_of_ble_eq_true rfl | rfl | (simp; done) | (simp only [htf] at *; first | omega | (simp; omega))), ?_⟩; conv => whnf) | (refine ⟨_, rfl, ?_⟩; conv => whnf) | (first | refine iteP_true rfl ?_ | refine iteP_false rfl ?_ | refine iteP_true ‹_› ?_ | refine iteP_false ‹_› ?_; conv => whnf) | (refine And.intro (by kernel_rfl : indep _ _ = true) ?_; conv => whnf) | (refine And.intro (by rfl : List.all _ _ = true) ?_; conv => whnf) | (refine And.intro (by first | omega | (simp only [plain_i64, plain_ints, plain_nil, all_ints]; done) | (dsimp only; omega) | exact Nat.le_of_ble_eq_true rfl | rfl | (simp; done) | (simp only [htf] at *; first | omega | (simp; omega))) ?_; conv => whnf) | (refine iteP_intro (fun hb => ?_) (fun hb => ?_) <;> (conv => whnf)))
  rfl
set_option maxHeartbeats 4000000 in
set_option maxRecDepth 100000 in
theorem l10Apply_ret (ms y z r : List Nat) (us : List (List Int × List Int)) (j : Nat) (hj : j < us.length) (hr : us[j].2 = natI r) (hA : Alpha ms) (hl : ms.length ≤ 16) (hy : Wd ms y) (hz : Wd ms z) (hrw : Wd ms r) (l1 : y.length ≤ 2 ^ 20) (l2 : z.length ≤ 2 ^ 20) (l3 : r.length ≤ 2 ^ 20) : Ret Tryd.prog G0 97 [⟨.ro, .agg [i64 ms.length, ints (natI ms)]⟩, ⟨.ro, .one (rulesC us)⟩, ⟨.ro, .agg [i64 j, ints (natI y), ints (natI z)]⟩] ⟨.one (ints (natI (nform ms (y ++ r ++ z)))), []⟩ := by
  have hyl := natI_length y
  have hzl := natI_length z
  have hrl := natI_length r
  have hno := l03Normal_ret ms (y ++ r ++ z) hA hl ((hy.append hrw).append hz) (by rw [List.length_append, List.length_append]; omega)
  rw [natI_append, natI_append, ints_append, List.map_append, List.length_append, ← hr] at hno
  rw [← hr] at hrl
  unfold rulesC
  (refine ret_of_den (E := en 24 [] (fun _ => []) (fun _ => [])) tt_ok mixed Tryd.func97 rfl rfl rfl rfl ?_; refine ⟨by simp, ?_⟩)
  repeat' (first | (refine opt_some (getC_rows rfl rfl (by omega)) ?_; conv => whnf) | (refine opt_some (by dsimp only; exact getC_lent rfl rfl (by omega)) ?_; conv => whnf) | (refine opt_some rfl ?_; conv => whnf) | (refine ⟨_, (by simp only [nf, nl, nm, en, ints, setC_setC, Nat.reduceAdd, Nat.reduceMul]; exact rfl), ?_⟩; conv => whnf) | (refine ⟨_, pick_at rfl (by first | omega | (simp only [plain_i64, plain_ints, plain_nil, all_ints]; done) | (dsimp only; omega) | exact Nat.le_of_ble_eq_true rfl | rfl | (simp; done) | (simp only [htf] at *; first | omega | (simp; omega))), ?_⟩; conv => whnf) | (refine ⟨_, rfl, ?_⟩; conv => whnf) | (first | refine iteP_true rfl ?_ | refine iteP_false rfl ?_ | refine iteP_true ‹_› ?_ | refine iteP_false ‹_› ?_; conv => whnf) | (refine And.intro (by kernel_rfl : indep _ _ = true) ?_; conv => whnf) | (refine And.intro (by rfl : List.all _ _ = true) ?_; conv => whnf) | (refine And.intro (by first | omega | (simp only [plain_i64, plain_ints, plain_nil, all_ints]; done) | (dsimp only; omega) | exact Nat.le_of_ble_eq_true rfl | rfl | (simp; done) | (simp only [htf] at *; first | omega | (simp; omega))) ?_; conv => whnf) | (refine iteP_intro (fun hb => ?_) (fun hb => ?_) <;> (conv => whnf)))
  (refine ⟨_, l01Own_ret (natI y) (by omega), ?_⟩; conv => whnf)
  repeat' (first | (refine opt_some (getC_rows rfl rfl (by omega)) ?_; conv => whnf) | (refine opt_some (by dsimp only; exact getC_lent rfl rfl (by omega)) ?_; conv => whnf) | (refine opt_some rfl ?_; conv => whnf) | (refine ⟨_, (by simp only [nf, nl, nm, en, ints, setC_setC, Nat.reduceAdd, Nat.reduceMul]; exact rfl), ?_⟩; conv => whnf) | (refine ⟨_, pick_at rfl (by first | omega | (simp only [plain_i64, plain_ints, plain_nil, all_ints]; done) | (dsimp only; omega) | exact Nat.le_of_ble_eq_true rfl | rfl | (simp; done) | (simp only [htf] at *; first | omega | (simp; omega))), ?_⟩; conv => whnf) | (refine ⟨_, rfl, ?_⟩; conv => whnf) | (first | refine iteP_true rfl ?_ | refine iteP_false rfl ?_ | refine iteP_true ‹_› ?_ | refine iteP_false ‹_› ?_; conv => whnf) | (refine And.intro (by kernel_rfl : indep _ _ = true) ?_; conv => whnf) | (refine And.intro (by rfl : List.all _ _ = true) ?_; conv => whnf) | (refine And.intro (by first | omega | (simp only [plain_i64, plain_ints, plain_nil, all_ints]; done) | (dsimp only; omega) | exact Nat.le_of_ble_eq_true rfl | rfl | (simp; done) | (simp only [htf] at *; first | omega | (simp; omega))) ?_; conv => whnf) | (refine And.intro (by rw [Int.toNat_natCast, rules_drop hj]; simp) ?_; conv => whnf) | (refine ⟨_, pick_ruleL rfl hj, ?_⟩; conv => whnf) | (refine ⟨_, pick_ruleR rfl hj, ?_⟩; conv => whnf) | (refine iteP_intro (fun hb => ?_) (fun hb => ?_) <;> (conv => whnf)))
  (refine ⟨_, hno, ?_⟩; conv => whnf)
  repeat' (first | (refine opt_some (getC_rows rfl rfl (by omega)) ?_; conv => whnf) | (refine opt_some (by dsimp only; exact getC_lent rfl rfl (by omega)) ?_; conv => whnf) | (refine opt_some rfl ?_; conv => whnf) | (refine ⟨_, (by simp only [nf, nl, nm, en, ints, setC_setC, Nat.reduceAdd, Nat.reduceMul]; exact rfl), ?_⟩; conv => whnf) | (refine ⟨_, pick_at rfl (by first | omega | (simp only [plain_i64, plain_ints, plain_nil, all_ints]; done) | (dsimp only; omega) | exact Nat.le_of_ble_eq_true rfl | rfl | (simp; done) | (simp only [htf] at *; first | omega | (simp; omega))), ?_⟩; conv => whnf) | (refine ⟨_, rfl, ?_⟩; conv => whnf) | (first | refine iteP_true rfl ?_ | refine iteP_false rfl ?_ | refine iteP_true ‹_› ?_ | refine iteP_false ‹_› ?_; conv => whnf) | (refine And.intro (by kernel_rfl : indep _ _ = true) ?_; conv => whnf) | (refine And.intro (by rfl : List.all _ _ = true) ?_; conv => whnf) | (refine And.intro (by first | omega | (simp only [plain_i64, plain_ints, plain_nil, all_ints]; done) | (dsimp only; omega) | exact Nat.le_of_ble_eq_true rfl | rfl | (simp; done) | (simp only [htf] at *; first | omega | (simp; omega))) ?_; conv => whnf) | (refine iteP_intro (fun hb => ?_) (fun hb => ?_) <;> (conv => whnf)))
  rfl
end Go.Proofs.YtljhmkkmcbfffaaDoor
