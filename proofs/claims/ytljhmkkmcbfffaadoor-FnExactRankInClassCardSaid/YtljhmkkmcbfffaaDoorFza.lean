import Derived.Test.YtljhmkkmcbfffaaDoorFy
set_option autoImplicit false
set_option linter.unusedSimpArgs false
set_option linter.unusedVariables false
namespace Go.Proofs.YtljhmkkmcbfffaaDoor
open Go.Den
theorem sumN_upto (f : Nat → Nat) {a : Nat} : ∀ {n : Nat}, a ≤ n → sumN f a ≤ sumN f n
  | 0, h => by
    obtain rfl : a = 0 := by omega
    exact Nat.le_refl _
  | n + 1, h => by
    by_cases e : a = n + 1
    · subst e; exact Nat.le_refl _
    · have := sumN_upto f (a := a) (n := n) (by omega)
      show _ ≤ sumN f n + f n
      omega
/-- How many words begin with b. -/
def trk (ms r : List Nat) (b : Nat) : Nat := if canF ms b r then clsW ms (r.erase b) else 0
theorem trk_t {ms r : List Nat} {b : Nat} (h : canF ms b r = true) : trk ms r b = clsW ms (r.erase b) := by unfold trk; rw [if_pos h]
theorem trk_f {ms r : List Nat} {b : Nat} (h : canF ms b r = false) : trk ms r b = 0 := by unfold trk; rw [if_neg (by rw [h]; simp)]
theorem clsW_trk {ms r : List Nat} (h : r ≠ []) : clsW ms r = sumN (trk ms r) ms.length := clsW_cons h
/-- The rank of a word among those of its trace. -/
def rkN (ms : List Nat) : List Nat → Nat
  | [] => 0
  | a :: w => sumN (trk ms (a :: w)) a + rkN ms w
theorem trk_le {ms r : List Nat} {a b : Nat} (h : b < a) (ha : a ≤ ms.length) (hr : r ≠ []) : sumN (trk ms r) b + trk ms r b ≤ sumN (trk ms r) a ∧ sumN (trk ms r) a ≤ clsW ms r := by
  rw [clsW_trk hr]
  exact ⟨sumN_upto (trk ms r) (a := b + 1) (by omega), sumN_upto _ ha⟩
theorem trk_head {ms w : List Nat} {a : Nat} (ha : a < ms.length) : sumN (trk ms (a :: w)) a + clsW ms w ≤ clsW ms (a :: w) := by
  have h1 := sumN_upto (trk ms (a :: w)) (a := a + 1) (n := ms.length) ha
  rw [clsW_trk (r := a :: w) (by simp)]
  have h2 : trk ms (a :: w) a = clsW ms w := by rw [trk_t (canF_head ..), List.erase_cons_head]
  have h3 : sumN (trk ms (a :: w)) (a + 1) = sumN (trk ms (a :: w)) a + trk ms (a :: w) a := rfl
  omega
theorem rkN_lt {ms : List Nat} : ∀ {w : List Nat}, Wd ms w → rkN ms w < clsW ms w
  | [], _ => by rw [clsW_nil, rkN]; omega
  | a :: w, h => by
    have h1 := rkN_lt (ms := ms) (w := w) h.tail
    have h2 := trk_head (w := w) h.head
    rw [rkN]
    omega
theorem rkN_drop {ms w : List Nat} {i : Nat} (h : i < w.length) : rkN ms (w.drop i) = sumN (trk ms (w.drop i)) (w.getD i 0) + rkN ms (w.drop (i + 1)) := by
  rw [drop_getD h]
  rfl
theorem cls_drop {ms w : List Nat} {i : Nat} (hw : Wd ms w) (h : i < w.length) : sumN (trk ms (w.drop i)) (w.getD i 0) + clsW ms (w.drop (i + 1)) ≤ clsW ms (w.drop i) := by
  rw [drop_getD h]
  exact trk_head (wd_lt hw h)
theorem wd_drop {ms w : List Nat} (hw : Wd ms w) (i : Nat) : Wd ms (w.drop i) := fun c hc => hw c (List.mem_of_mem_drop hc)
theorem sfx_drop {ms w : List Nat} (i : Nat) : ∃ u, Eqv ms w (u ++ w.drop i) := ⟨w.take i, by rw [List.take_append_drop]; exact .refl _ _⟩
theorem clsR_ok {n : Int} {ds xs : List Int} (h : (clsR n ds xs).2 = 0) : ∃ ms w : List Nat, ds.map Int.toNat = ms ∧ xs.map Int.toNat = w ∧ n = ms.length ∧ ds = natI ms ∧ ms.length ≤ 8 ∧ Alpha ms ∧ xs = natI w ∧ w.length ≤ 24 ∧ Wd ms w ∧ clsW ms w ≤ 1000000000000000 ∧ clsR n ds xs = (((clsW ms w : Nat) : Int), 0) := by
  cases ha : alphaOk n ds with
  | false => rw [clsR_bad ha] at h; cases h
  | true =>
    cases hw : wordN n xs with
    | false => rw [clsR_out ha hw] at h; cases h
    | true =>
      obtain ⟨ms, e1, rfl, rfl, hl, hA⟩ := alpha_ok ha
      obtain ⟨w, e2, rfl, hwl, hwc⟩ := word_nat hw
      rw [clsR_in ha hw e1 e2] at h ⊢
      split at h
      · cases h
      · rename_i hlt
        rw [if_neg hlt]
        exact ⟨ms, w, e1, e2, rfl, rfl, hl, hA, rfl, hwl, word_wd hwc, by omega, rfl⟩
/-- What RankInClass answers. -/
def rnkR (n : Int) (ds xs : List Int) : Int × Int := if (clsR n ds xs).2 = 0 then (((rkN (ds.map Int.toNat) (xs.map Int.toNat) : Nat) : Int), 0) else (0, (clsR n ds xs).2)
theorem rnkR_bad {n : Int} {ds xs : List Int} (h : (clsR n ds xs).2 ≠ 0) : rnkR n ds xs = (0, (clsR n ds xs).2) := by
  unfold rnkR
  rw [if_neg h]
theorem rnkR_ok {n : Int} {ds xs : List Int} {ms w : List Nat} (h : (clsR n ds xs).2 = 0) (e1 : ds.map Int.toNat = ms) (e2 : xs.map Int.toNat = w) : rnkR n ds xs = (((rkN ms w : Nat) : Int), 0) := by
  unfold rnkR
  rw [if_pos h, e1, e2]
set_option maxHeartbeats 4000000 in
set_option maxRecDepth 100000 in
theorem rankS_ret (n : Int) (ds xs : List Int) (hd : ds.length < 2 ^ 62) (hx : xs.length < 2 ^ 62) : Ret Tryd.prog G0 26 [⟨.ro, .agg [i64 n, ints ds]⟩, ⟨.ro, .one (ints xs)⟩] ⟨.tup [(false, [i64 (rnkR n ds xs).1]), (false, [i64 (rnkR n ds xs).2])], []⟩ := by
  have hc := countClassS_ret n ds xs hd hx
  by_cases h : (clsR n ds xs).2 = 0
  · obtain ⟨ms, w, e1, e2, rfl, rfl, hl, hA, rfl, hwl, hw, hcw, hr⟩ := clsR_ok h
    rw [rnkR_ok h e1 e2]
    rw [hr] at hc
    have hwn := natI_length w
    (refine ret_of_den (E := en 54 [] (fun | 6 => [(2, 0), (8, 0), (9, 0), (1, 1)] | 10 => [(2, 0), (8, 0), (9, 0), (10, 0), (11, 0), (1, 1)] | _ => []) (fun _ => [])) tt_ok mixed Tryd.func26 rfl rfl rfl rfl ?_; refine ⟨by simp, ?_⟩)
    repeat' (first | (refine opt_some (getC_rows rfl rfl (by omega)) ?_; conv => whnf) | (refine opt_some (by dsimp only; exact getC_lent rfl rfl (by omega)) ?_; conv => whnf) | (refine opt_some rfl ?_; conv => whnf) | (refine ⟨_, (by simp only [nf, nl, nm, en, ints, setC_setC, Nat.reduceAdd, Nat.reduceMul]; exact rfl), ?_⟩; conv => whnf) | (refine ⟨_, pick_at rfl (by first | omega | (simp only [plain_i64, plain_ints, plain_nil, all_ints]; done) | (dsimp only; omega) | exact Nat.le_of_ble_eq_true rfl | rfl | (simp; done) | (simp only [htf] at *; first | omega | (simp; omega))), ?_⟩; conv => whnf) | (refine ⟨_, rfl, ?_⟩; conv => whnf) | (first | refine iteP_true rfl ?_ | refine iteP_false rfl ?_ | refine iteP_true ‹_› ?_ | refine iteP_false ‹_› ?_; conv => whnf) | (refine And.intro (by kernel_rfl : indep _ _ = true) ?_; conv => whnf) | (refine And.intro (by rfl : List.all _ _ = true) ?_; conv => whnf) | (refine And.intro (by first | omega | (simp only [plain_i64, plain_ints, plain_nil, all_ints]; done) | (dsimp only; omega) | exact Nat.le_of_ble_eq_true rfl | rfl | (simp; done) | (simp only [htf] at *; first | omega | (simp; omega))) ?_; conv => whnf) | (refine iteP_intro (fun hb => ?_) (fun hb => ?_) <;> (conv => whnf)))
    (refine ⟨_, hc, ?_⟩; conv => whnf)
    repeat' (first | (refine opt_some (getC_rows rfl rfl (by omega)) ?_; conv => whnf) | (refine opt_some (by dsimp only; exact getC_lent rfl rfl (by omega)) ?_; conv => whnf) | (refine opt_some rfl ?_; conv => whnf) | (refine ⟨_, (by simp only [nf, nl, nm, en, ints, setC_setC, Nat.reduceAdd, Nat.reduceMul]; exact rfl), ?_⟩; conv => whnf) | (refine ⟨_, pick_at rfl (by first | omega | (simp only [plain_i64, plain_ints, plain_nil, all_ints]; done) | (dsimp only; omega) | exact Nat.le_of_ble_eq_true rfl | rfl | (simp; done) | (simp only [htf] at *; first | omega | (simp; omega))), ?_⟩; conv => whnf) | (refine ⟨_, rfl, ?_⟩; conv => whnf) | (first | refine iteP_true rfl ?_ | refine iteP_false rfl ?_ | refine iteP_true ‹_› ?_ | refine iteP_false ‹_› ?_; conv => whnf) | (refine And.intro (by kernel_rfl : indep _ _ = true) ?_; conv => whnf) | (refine And.intro (by rfl : List.all _ _ = true) ?_; conv => whnf) | (refine And.intro (by first | omega | (simp only [plain_i64, plain_ints, plain_nil, all_ints]; done) | (dsimp only; omega) | exact Nat.le_of_ble_eq_true rfl | rfl | (simp; done) | (simp only [htf] at *; first | omega | (simp; omega))) ?_; conv => whnf) | (refine iteP_intro (fun hb => ?_) (fun hb => ?_) <;> (conv => whnf)))
    refine ⟨fun k vs => ∃ i R : Nat, i ≤ w.length ∧ R + rkN ms (w.drop i) = rkN ms w ∧ R + clsW ms (w.drop i) ≤ clsW ms w ∧ vs = [.one (.ptr [i64 ms.length, .shd (ints (natI ms))]), .one (i64 R), .one (i64 i), .one (.shd (ints (natI w)))] ∧ k = w.length - i, rfl, ⟨_, 0, 0, by omega, by simp, by simp, rfl, rfl⟩, ?_⟩
    rintro k vs ⟨i, R, hi, hR1, hR2, rfl, rfl⟩
    repeat (first | (refine opt_some (getC_rows rfl rfl (by omega)) ?_; conv => whnf) | (refine opt_some (by dsimp only; exact getC_lent rfl rfl (by omega)) ?_; conv => whnf) | (refine opt_some rfl ?_; conv => whnf) | (refine ⟨_, (by simp only [nf, nl, nm, en, ints, setC_setC, Nat.reduceAdd, Nat.reduceMul]; exact rfl), ?_⟩; conv => whnf) | (refine ⟨_, pick_at rfl (by first | omega | (simp only [plain_i64, plain_ints, plain_nil, all_ints]; done) | (dsimp only; omega) | exact Nat.le_of_ble_eq_true rfl | rfl | (simp; done) | (simp only [htf] at *; first | omega | (simp; omega))), ?_⟩; conv => whnf) | (refine ⟨_, rfl, ?_⟩; conv => whnf) | (first | refine iteP_true rfl ?_ | refine iteP_false rfl ?_ | refine iteP_true ‹_› ?_ | refine iteP_false ‹_› ?_; conv => whnf) | (refine And.intro (by kernel_rfl : indep _ _ = true) ?_; conv => whnf) | (refine And.intro (by rfl : List.all _ _ = true) ?_; conv => whnf) | (refine And.intro (by first | omega | (simp only [plain_i64, plain_ints, plain_nil, all_ints]; done) | (dsimp only; omega) | exact Nat.le_of_ble_eq_true rfl | rfl | (simp; done) | (simp only [htf] at *; first | omega | (simp; omega))) ?_; conv => whnf))
    refine iteP_intro (fun hb => ?_) (fun hb => ?_) <;> (conv => whnf)
    · have hi' : i < w.length := by have := leT hb; omega
      have hg : (natI w)[i]'(by rw [hwn]; exact hi') = ((w.getD i 0 : Nat) : Int) := natI_getD hi'
      have hdr := rkN_drop (ms := ms) hi'
      have hcd := cls_drop hw hi'
      have ha := wd_lt hw hi'
      have hne : w.drop i ≠ [] := fun e => by have := congrArg List.length e; rw [List.length_drop] at this; simp at this; omega
      have hrw := wd_drop hw i
      have hrl : (w.drop i).length ≤ 24 := by rw [List.length_drop]; omega
      have e3 : Cell.sl false 1 ((natI w).length - (i : Int).toNat) (((natI w).map i64).drop ((i : Int).toNat * 1)) = ints (natI (w.drop i)) := by rw [cut_lo, natI_drop]
      have hrn := natI_length (w.drop i)
      generalize w.drop i = r at hdr hcd hne hrw hrl e3 hrn hR1 hR2
      generalize w.getD i 0 = a at hg hdr hcd ha
      repeat (first | (refine opt_some (getC_rows rfl rfl (by omega)) ?_; conv => whnf) | (refine opt_some (by dsimp only; exact getC_lent rfl rfl (by omega)) ?_; conv => whnf) | (refine opt_some rfl ?_; conv => whnf) | (refine ⟨_, (by simp only [nf, nl, nm, en, ints, setC_setC, Nat.reduceAdd, Nat.reduceMul, e3]; exact rfl), ?_⟩; conv => whnf) | (refine ⟨_, pick_at rfl (by first | omega | (simp only [plain_i64, plain_ints, plain_nil, all_ints]; done) | (dsimp only; omega) | exact Nat.le_of_ble_eq_true rfl | rfl | (simp; done) | (simp only [htf] at *; first | omega | (simp; omega))), ?_⟩; conv => whnf) | (refine ⟨_, rfl, ?_⟩; conv => whnf) | (first | refine iteP_true rfl ?_ | refine iteP_false rfl ?_ | refine iteP_true ‹_› ?_ | refine iteP_false ‹_› ?_; conv => whnf) | (refine And.intro (by kernel_rfl : indep _ _ = true) ?_; conv => whnf) | (refine And.intro (by rfl : List.all _ _ = true) ?_; conv => whnf) | (refine And.intro (by first | omega | (simp only [plain_i64, plain_ints, plain_nil, all_ints]; done) | (dsimp only; omega) | exact Nat.le_of_ble_eq_true rfl | rfl | (simp; done) | (simp only [htf] at *; first | omega | (simp; omega))) ?_; conv => whnf))
      (refine ⟨_, l01Own_ret (natI r) (by omega), ?_⟩; conv => whnf)
      repeat (first | (refine opt_some (getC_rows rfl rfl (by omega)) ?_; conv => whnf) | (refine opt_some (by dsimp only; exact getC_lent rfl rfl (by omega)) ?_; conv => whnf) | (refine opt_some rfl ?_; conv => whnf) | (refine ⟨_, (by simp only [nf, nl, nm, en, ints, setC_setC, Nat.reduceAdd, Nat.reduceMul]; exact rfl), ?_⟩; conv => whnf) | (refine ⟨_, pick_at rfl (by first | omega | (simp only [plain_i64, plain_ints, plain_nil, all_ints]; done) | (dsimp only; omega) | exact Nat.le_of_ble_eq_true rfl | rfl | (simp; done) | (simp only [htf] at *; first | omega | (simp; omega))), ?_⟩; conv => whnf) | (refine ⟨_, rfl, ?_⟩; conv => whnf) | (first | refine iteP_true rfl ?_ | refine iteP_false rfl ?_ | refine iteP_true ‹_› ?_ | refine iteP_false ‹_› ?_; conv => whnf) | (refine And.intro (by kernel_rfl : indep _ _ = true) ?_; conv => whnf) | (refine And.intro (by rfl : List.all _ _ = true) ?_; conv => whnf) | (refine And.intro (by first | omega | (simp only [plain_i64, plain_ints, plain_nil, all_ints]; done) | (dsimp only; omega) | exact Nat.le_of_ble_eq_true rfl | rfl | (simp; done) | (simp only [htf] at *; first | omega | (simp; omega))) ?_; conv => whnf))
      refine ⟨fun k vs => ∃ b : Nat, b ≤ a ∧ vs = [.one (.ptr [i64 ms.length, .shd (ints (natI ms))]), .one (i64 (R + sumN (trk ms r) b : Nat)), .one (i64 i), .one (ints (natI r)), .one (i64 b), .one (.shd (ints (natI w)))] ∧ k = a - b, rfl, ⟨_, 0, by omega, rfl, rfl⟩, ?_⟩
      rintro k vs ⟨b, hb1, rfl, rfl⟩
      repeat (first | (refine opt_some (getC_rows rfl rfl (by omega)) ?_; conv => whnf) | (refine opt_some (by dsimp only; exact getC_lent rfl rfl (by omega)) ?_; conv => whnf) | (refine opt_some rfl ?_; conv => whnf) | (refine ⟨_, (by simp only [nf, nl, nm, en, ints, setC_setC, Nat.reduceAdd, Nat.reduceMul, hg]; exact rfl), ?_⟩; conv => whnf) | (refine ⟨_, pick_at rfl (by first | omega | (simp only [plain_i64, plain_ints, plain_nil, all_ints]; done) | (dsimp only; omega) | exact Nat.le_of_ble_eq_true rfl | rfl | (simp; done) | (simp only [htf] at *; first | omega | (simp; omega))), ?_⟩; conv => whnf) | (refine ⟨_, rfl, ?_⟩; conv => whnf) | (first | refine iteP_true rfl ?_ | refine iteP_false rfl ?_ | refine iteP_true ‹_› ?_ | refine iteP_false ‹_› ?_; conv => whnf) | (refine And.intro (by kernel_rfl : indep _ _ = true) ?_; conv => whnf) | (refine And.intro (by rfl : List.all _ _ = true) ?_; conv => whnf) | (refine And.intro (by first | omega | (simp only [plain_i64, plain_ints, plain_nil, all_ints]; done) | (dsimp only; omega) | exact Nat.le_of_ble_eq_true rfl | rfl | (simp; done) | (simp only [htf] at *; first | omega | (simp; omega))) ?_; conv => whnf))
      refine iteP_intro (fun hb => ?_) (fun hb => ?_) <;> (conv => whnf)
      · have hb' : b < a := by have := leT hb; omega
        obtain ⟨ht1, ht2⟩ := trk_le (r := r) hb' (Nat.le_of_lt ha) hne
        have hsu : sumN (trk ms r) (b + 1) = sumN (trk ms r) b + trk ms r b := rfl
        have hfr := l03First_ret ms r b (by omega) hA.lt hrw (by omega) (by omega)
        have hfs := frI_spec (ms := ms) (a := b) r 0
        repeat (first | (refine opt_some (getC_rows rfl rfl (by omega)) ?_; conv => whnf) | (refine opt_some (by dsimp only; exact getC_lent rfl rfl (by omega)) ?_; conv => whnf) | (refine opt_some rfl ?_; conv => whnf) | (refine ⟨_, (by simp only [nf, nl, nm, en, ints, setC_setC, Nat.reduceAdd, Nat.reduceMul]; exact rfl), ?_⟩; conv => whnf) | (refine ⟨_, pick_at rfl (by first | omega | (simp only [plain_i64, plain_ints, plain_nil, all_ints]; done) | (dsimp only; omega) | exact Nat.le_of_ble_eq_true rfl | rfl | (simp; done) | (simp only [htf] at *; first | omega | (simp; omega))), ?_⟩; conv => whnf) | (refine ⟨_, rfl, ?_⟩; conv => whnf) | (first | refine iteP_true rfl ?_ | refine iteP_false rfl ?_ | refine iteP_true ‹_› ?_ | refine iteP_false ‹_› ?_; conv => whnf) | (refine And.intro (by kernel_rfl : indep _ _ = true) ?_; conv => whnf) | (refine And.intro (by rfl : List.all _ _ = true) ?_; conv => whnf) | (refine And.intro (by first | omega | (simp only [plain_i64, plain_ints, plain_nil, all_ints]; done) | (dsimp only; omega) | exact Nat.le_of_ble_eq_true rfl | rfl | (simp; done) | (simp only [htf] at *; first | omega | (simp; omega))) ?_; conv => whnf))
        rcases hfs with ⟨h1, j, h2, h3, h4⟩ | ⟨h1, h2⟩
        · have h3 : frI ms b r 0 = (j : Int) := by rw [show (0 : Int) = ((0 : Nat) : Int) from rfl, h3, Nat.zero_add]
          rw [h3] at hfr
          have hwo := l03Without_ret r j (by omega) h2
          rw [h4] at hwo
          rw [trk_t h1] at ht1 hsu
          have hco := l03Count_ret ms (r.erase b) hl hA (hrw.erase b) (by rw [erase_length (canF_mem h1)]; omega)
          generalize clsW ms (r.erase b) = q at ht1 hsu hco
          generalize sumN (trk ms r) b = S at ht1 hsu
          have h5 : decide ((j : Int) ≥ 0) = true := decide_eq_true (by omega)
          have hadd : IntKind.i64.wrap (((R + S : Nat) : Int) + (q : Int)) = ((R + S + q : Nat) : Int) := by rw [wrap_i64 (by omega) (by omega)]; omega
          (refine ⟨_, hfr, ?_⟩; conv => whnf)
          repeat (first | (refine opt_some (getC_rows rfl rfl (by omega)) ?_; conv => whnf) | (refine opt_some (by dsimp only; exact getC_lent rfl rfl (by omega)) ?_; conv => whnf) | (refine opt_some rfl ?_; conv => whnf) | (refine ⟨_, (by simp only [nf, nl, nm, en, ints, setC_setC, Nat.reduceAdd, Nat.reduceMul]; exact rfl), ?_⟩; conv => whnf) | (refine ⟨_, pick_at rfl (by first | omega | (simp only [plain_i64, plain_ints, plain_nil, all_ints]; done) | (dsimp only; omega) | exact Nat.le_of_ble_eq_true rfl | rfl | (simp; done) | (simp only [htf] at *; first | omega | (simp; omega))), ?_⟩; conv => whnf) | (refine ⟨_, rfl, ?_⟩; conv => whnf) | (first | refine iteP_true rfl ?_ | refine iteP_false rfl ?_ | refine iteP_true ‹_› ?_ | refine iteP_false ‹_› ?_; conv => whnf) | (refine And.intro (by kernel_rfl : indep _ _ = true) ?_; conv => whnf) | (refine And.intro (by rfl : List.all _ _ = true) ?_; conv => whnf) | (refine And.intro (by first | omega | (simp only [plain_i64, plain_ints, plain_nil, all_ints]; done) | (dsimp only; omega) | exact Nat.le_of_ble_eq_true rfl | rfl | (simp; done) | (simp only [htf] at *; first | omega | (simp; omega))) ?_; conv => whnf))
          (refine ⟨_, hwo, ?_⟩; conv => whnf)
          repeat (first | (refine opt_some (getC_rows rfl rfl (by omega)) ?_; conv => whnf) | (refine opt_some (by dsimp only; exact getC_lent rfl rfl (by omega)) ?_; conv => whnf) | (refine opt_some rfl ?_; conv => whnf) | (refine ⟨_, (by simp only [nf, nl, nm, en, ints, setC_setC, Nat.reduceAdd, Nat.reduceMul]; exact rfl), ?_⟩; conv => whnf) | (refine ⟨_, pick_at rfl (by first | omega | (simp only [plain_i64, plain_ints, plain_nil, all_ints]; done) | (dsimp only; omega) | exact Nat.le_of_ble_eq_true rfl | rfl | (simp; done) | (simp only [htf] at *; first | omega | (simp; omega))), ?_⟩; conv => whnf) | (refine ⟨_, rfl, ?_⟩; conv => whnf) | (first | refine iteP_true rfl ?_ | refine iteP_false rfl ?_ | refine iteP_true ‹_› ?_ | refine iteP_false ‹_› ?_; conv => whnf) | (refine And.intro (by kernel_rfl : indep _ _ = true) ?_; conv => whnf) | (refine And.intro (by rfl : List.all _ _ = true) ?_; conv => whnf) | (refine And.intro (by first | omega | (simp only [plain_i64, plain_ints, plain_nil, all_ints]; done) | (dsimp only; omega) | exact Nat.le_of_ble_eq_true rfl | rfl | (simp; done) | (simp only [htf] at *; first | omega | (simp; omega))) ?_; conv => whnf))
          (refine ⟨_, hco, ?_⟩; conv => whnf)
          repeat (first | (refine opt_some (getC_rows rfl rfl (by omega)) ?_; conv => whnf) | (refine opt_some (by dsimp only; exact getC_lent rfl rfl (by omega)) ?_; conv => whnf) | (refine opt_some rfl ?_; conv => whnf) | (refine ⟨_, (by simp only [nf, nl, nm, en, ints, setC_setC, Nat.reduceAdd, Nat.reduceMul, hadd]; exact rfl), ?_⟩; conv => whnf) | (refine ⟨_, pick_at rfl (by first | omega | (simp only [plain_i64, plain_ints, plain_nil, all_ints]; done) | (dsimp only; omega) | exact Nat.le_of_ble_eq_true rfl | rfl | (simp; done) | (simp only [htf] at *; first | omega | (simp; omega))), ?_⟩; conv => whnf) | (refine ⟨_, rfl, ?_⟩; conv => whnf) | (first | refine iteP_true rfl ?_ | refine iteP_false rfl ?_ | refine iteP_true ‹_› ?_ | refine iteP_false ‹_› ?_; conv => whnf) | (refine And.intro (by kernel_rfl : indep _ _ = true) ?_; conv => whnf) | (refine And.intro (by rfl : List.all _ _ = true) ?_; conv => whnf) | (refine And.intro (by first | omega | (simp only [plain_i64, plain_ints, plain_nil, all_ints]; done) | (dsimp only; omega) | exact Nat.le_of_ble_eq_true rfl | rfl | (simp; done) | (simp only [htf] at *; first | omega | (simp; omega))) ?_; conv => whnf))
          refine ⟨_, ?_, b + 1, hb', ?_, rfl⟩
          · omega
          · rw [wrap_succ (by omega), hsu, ← Nat.add_assoc]
            rfl
        · have h2 : frI ms b r 0 = -1 := h2
          rw [h2] at hfr
          rw [trk_f h1, Nat.add_zero] at hsu
          (refine ⟨_, hfr, ?_⟩; conv => whnf)
          repeat (first | (refine opt_some (getC_rows rfl rfl (by omega)) ?_; conv => whnf) | (refine opt_some (by dsimp only; exact getC_lent rfl rfl (by omega)) ?_; conv => whnf) | (refine opt_some rfl ?_; conv => whnf) | (refine ⟨_, (by simp only [nf, nl, nm, en, ints, setC_setC, Nat.reduceAdd, Nat.reduceMul]; exact rfl), ?_⟩; conv => whnf) | (refine ⟨_, pick_at rfl (by first | omega | (simp only [plain_i64, plain_ints, plain_nil, all_ints]; done) | (dsimp only; omega) | exact Nat.le_of_ble_eq_true rfl | rfl | (simp; done) | (simp only [htf] at *; first | omega | (simp; omega))), ?_⟩; conv => whnf) | (refine ⟨_, rfl, ?_⟩; conv => whnf) | (first | refine iteP_true rfl ?_ | refine iteP_false rfl ?_ | refine iteP_true ‹_› ?_ | refine iteP_false ‹_› ?_; conv => whnf) | (refine And.intro (by kernel_rfl : indep _ _ = true) ?_; conv => whnf) | (refine And.intro (by rfl : List.all _ _ = true) ?_; conv => whnf) | (refine And.intro (by first | omega | (simp only [plain_i64, plain_ints, plain_nil, all_ints]; done) | (dsimp only; omega) | exact Nat.le_of_ble_eq_true rfl | rfl | (simp; done) | (simp only [htf] at *; first | omega | (simp; omega))) ?_; conv => whnf))
          refine ⟨_, ?_, b + 1, hb', ?_, rfl⟩
          · omega
          · rw [wrap_succ (by omega), hsu]
            rfl
      · obtain rfl : b = a := by have := leF hb; omega
        repeat (first | (refine opt_some (getC_rows rfl rfl (by omega)) ?_; conv => whnf) | (refine opt_some (by dsimp only; exact getC_lent rfl rfl (by omega)) ?_; conv => whnf) | (refine opt_some rfl ?_; conv => whnf) | (refine ⟨_, (by simp only [nf, nl, nm, en, ints, setC_setC, Nat.reduceAdd, Nat.reduceMul]; exact rfl), ?_⟩; conv => whnf) | (refine ⟨_, pick_at rfl (by first | omega | (simp only [plain_i64, plain_ints, plain_nil, all_ints]; done) | (dsimp only; omega) | exact Nat.le_of_ble_eq_true rfl | rfl | (simp; done) | (simp only [htf] at *; first | omega | (simp; omega))), ?_⟩; conv => whnf) | (refine ⟨_, rfl, ?_⟩; conv => whnf) | (first | refine iteP_true rfl ?_ | refine iteP_false rfl ?_ | refine iteP_true ‹_› ?_ | refine iteP_false ‹_› ?_; conv => whnf) | (refine And.intro (by kernel_rfl : indep _ _ = true) ?_; conv => whnf) | (refine And.intro (by rfl : List.all _ _ = true) ?_; conv => whnf) | (refine And.intro (by first | omega | (simp only [plain_i64, plain_ints, plain_nil, all_ints]; done) | (dsimp only; omega) | exact Nat.le_of_ble_eq_true rfl | rfl | (simp; done) | (simp only [htf] at *; first | omega | (simp; omega))) ?_; conv => whnf))
        refine ⟨_, ?_, i + 1, R + sumN (trk ms r) b, hi', by omega, by omega, ?_, rfl⟩
        · omega
        · rw [wrap_succ (by omega)]
          rfl
    · obtain rfl : i = w.length := by have := leF hb; omega
      rw [List.drop_length, rkN, Nat.add_zero] at hR1
      repeat' (first | (refine opt_some (getC_rows rfl rfl (by omega)) ?_; conv => whnf) | (refine opt_some (by dsimp only; exact getC_lent rfl rfl (by omega)) ?_; conv => whnf) | (refine opt_some rfl ?_; conv => whnf) | (refine ⟨_, (by simp only [nf, nl, nm, en, ints, setC_setC, Nat.reduceAdd, Nat.reduceMul]; exact rfl), ?_⟩; conv => whnf) | (refine ⟨_, pick_at rfl (by first | omega | (simp only [plain_i64, plain_ints, plain_nil, all_ints]; done) | (dsimp only; omega) | exact Nat.le_of_ble_eq_true rfl | rfl | (simp; done) | (simp only [htf] at *; first | omega | (simp; omega))), ?_⟩; conv => whnf) | (refine ⟨_, rfl, ?_⟩; conv => whnf) | (first | refine iteP_true rfl ?_ | refine iteP_false rfl ?_ | refine iteP_true ‹_› ?_ | refine iteP_false ‹_› ?_; conv => whnf) | (refine And.intro (by kernel_rfl : indep _ _ = true) ?_; conv => whnf) | (refine And.intro (by rfl : List.all _ _ = true) ?_; conv => whnf) | (refine And.intro (by first | omega | (simp only [plain_i64, plain_ints, plain_nil, all_ints]; done) | (dsimp only; omega) | exact Nat.le_of_ble_eq_true rfl | rfl | (simp; done) | (simp only [htf] at *; first | omega | (simp; omega))) ?_; conv => whnf) | (refine iteP_intro (fun hb => ?_) (fun hb => ?_) <;> (conv => whnf)))
      rw [← hR1]
      rfl
  · rw [rnkR_bad h]
    generalize clsR n ds xs = q at h hc
    have hcb : (q.2 != 0) = true := by simpa using h
    (refine ret_of_den (E := en 54 [] (fun | 6 => [(2, 0), (8, 0), (9, 0), (1, 1)] | 10 => [(2, 0), (8, 0), (9, 0), (10, 0), (11, 0), (1, 1)] | _ => []) (fun _ => [])) tt_ok mixed Tryd.func26 rfl rfl rfl rfl ?_; refine ⟨by simp, ?_⟩)
    repeat' (first | (refine opt_some (getC_rows rfl rfl (by omega)) ?_; conv => whnf) | (refine opt_some (by dsimp only; exact getC_lent rfl rfl (by omega)) ?_; conv => whnf) | (refine opt_some rfl ?_; conv => whnf) | (refine ⟨_, (by simp only [nf, nl, nm, en, ints, setC_setC, Nat.reduceAdd, Nat.reduceMul]; exact rfl), ?_⟩; conv => whnf) | (refine ⟨_, pick_at rfl (by first | omega | (simp only [plain_i64, plain_ints, plain_nil, all_ints]; done) | (dsimp only; omega) | exact Nat.le_of_ble_eq_true rfl | rfl | (simp; done) | (simp only [htf] at *; first | omega | (simp; omega))), ?_⟩; conv => whnf) | (refine ⟨_, rfl, ?_⟩; conv => whnf) | (first | refine iteP_true rfl ?_ | refine iteP_false rfl ?_ | refine iteP_true ‹_› ?_ | refine iteP_false ‹_› ?_; conv => whnf) | (refine And.intro (by kernel_rfl : indep _ _ = true) ?_; conv => whnf) | (refine And.intro (by rfl : List.all _ _ = true) ?_; conv => whnf) | (refine And.intro (by first | omega | (simp only [plain_i64, plain_ints, plain_nil, all_ints]; done) | (dsimp only; omega) | exact Nat.le_of_ble_eq_true rfl | rfl | (simp; done) | (simp only [htf] at *; first | omega | (simp; omega))) ?_; conv => whnf) | (refine iteP_intro (fun hb => ?_) (fun hb => ?_) <;> (conv => whnf)))
    (refine ⟨_, hc, ?_⟩; conv => whnf)
    repeat' (first | (refine opt_some (getC_rows rfl rfl (by omega)) ?_; conv => whnf) | (refine opt_some (by dsimp only; exact getC_lent rfl rfl (by omega)) ?_; conv => whnf) | (refine opt_some rfl ?_; conv => whnf) | (refine ⟨_, (by simp only [nf, nl, nm, en, ints, setC_setC, Nat.reduceAdd, Nat.reduceMul]; exact rfl), ?_⟩; conv => whnf) | (refine ⟨_, pick_at rfl (by first | omega | (simp only [plain_i64, plain_ints, plain_nil, all_ints]; done) | (dsimp only; omega) | exact Nat.le_of_ble_eq_true rfl | rfl | (simp; done) | (simp only [htf] at *; first | omega | (simp; omega))), ?_⟩; conv => whnf) | (refine ⟨_, rfl, ?_⟩; conv => whnf) | (first | refine iteP_true rfl ?_ | refine iteP_false rfl ?_ | refine iteP_true ‹_› ?_ | refine iteP_false ‹_› ?_; conv => whnf) | (refine And.intro (by kernel_rfl : indep _ _ = true) ?_; conv => whnf) | (refine And.intro (by rfl : List.all _ _ = true) ?_; conv => whnf) | (refine And.intro (by first | omega | (simp only [plain_i64, plain_ints, plain_nil, all_ints]; done) | (dsimp only; omega) | exact Nat.le_of_ble_eq_true rfl | rfl | (simp; done) | (simp only [htf] at *; first | omega | (simp; omega))) ?_; conv => whnf) | (refine iteP_intro (fun hb => ?_) (fun hb => ?_) <;> (conv => whnf)))
    rfl
/-- The letters below a that can be taken away from the front. -/
def fstB (ms r : List Nat) (a : Nat) : List Nat := (List.range a).filter fun b => canF ms b r
theorem mask_below (p : Nat → Bool) {n a : Nat} (h : a ≤ n) : maskN p n &&& (2 ^ a - 1) = maskN p a := by
  refine Nat.eq_of_testBit_eq fun i => ?_
  rw [Nat.testBit_and, maskN_bit, maskN_bit, Nat.testBit_two_pow_sub_one]
  by_cases hi : i < a
  · rw [decide_eq_true hi, decide_eq_true (by omega), Bool.and_true]
  · rw [decide_eq_false hi, Bool.and_false, Bool.false_and]
theorem fstB_sum (ms r : List Nat) (a : Nat) : ((fstB ms r a).map fun b => clsW ms (r.erase b)).sum = sumN (trk ms r) a := sum_filter _ _ a
theorem fstB_mem {ms r : List Nat} {a b : Nat} : b ∈ fstB ms r a ↔ b < a ∧ canF ms b r = true := by
  unfold fstB
  rw [List.mem_filter, List.mem_range]
theorem sum_take_le (l : List Nat) (i : Nat) : (l.take i).sum ≤ l.sum := by
  conv => rhs; rw [← List.take_append_drop i l]
  rw [List.sum_append]
  omega
theorem goC_val {ms w r : List Nat} {es : MemoN} (hA : Alpha ms) (hl : r.length ≤ 24) (hr : Wd ms r) (hu : ∃ u, Eqv ms w (u ++ r)) (hk : KnownC ms w es) (hc : clsW ms r ≤ 1000000000000000) : (goC ms r.length r es).1 = clsW ms r ∧ KnownC ms w (goC ms r.length r es).2 := by
  obtain ⟨h1, h2⟩ := goC_known hA r.length hl r es rfl hr hu hk
  exact ⟨by omega, h2⟩
set_option maxHeartbeats 4000000 in
set_option maxRecDepth 100000 in
theorem rankI_ret (n : Int) (ds xs : List Int) (hd : ds.length < 2 ^ 62) (hx : xs.length < 2 ^ 62) : Ret Tryd.prog G0 27 [⟨.ro, .agg [i64 n, ints ds]⟩, ⟨.ro, .one (ints xs)⟩] ⟨.tup [(false, [i64 (rnkR n ds xs).1]), (false, [i64 (rnkR n ds xs).2])], []⟩ := by
  have hc := checkClass_ret n ds xs hd hx
  unfold clsC at hc
  by_cases h : (clsR n ds xs).2 = 0
  · obtain ⟨ms, w, e1, e2, rfl, rfl, hl, hA, rfl, hwl, hw, hcw, hr⟩ := clsR_ok h
    rw [rnkR_ok h e1 e2]
    have hwn := natI_length w
    rw [if_pos h, hr, e1, e2, hwn] at hc
    obtain ⟨-, hk0⟩ := goC_val (w := w) (es := []) hA hwl hw ⟨[], Eqv.refl _ _⟩ (fun e h => by cases h) hcw
    generalize (goC ms w.length w []).2 = es0 at hc hk0
    unfold memoN at hc
    (refine ret_of_den (E := en 61 [] (fun | 6 => [(6, 0), (9, 0), (27, 0), (28, 0), (10, 1), (26, 1)] | 9 => [(6, 0), (9, 0), (12, 0), (27, 0), (28, 0), (42, 0), (43, 0), (44, 0), (10, 1), (26, 1)] | _ => []) (fun _ => [])) tt_ok mixed Tryd.func27 rfl rfl rfl rfl ?_; refine ⟨by simp, ?_⟩)
    repeat' (first | (refine opt_some (getC_rows rfl rfl (by omega)) ?_; conv => whnf) | (refine opt_some (by dsimp only; exact getC_lent rfl rfl (by omega)) ?_; conv => whnf) | (refine opt_some rfl ?_; conv => whnf) | (refine ⟨_, (by simp only [nf, nl, nm, en, ints, setC_setC, Nat.reduceAdd, Nat.reduceMul]; exact rfl), ?_⟩; conv => whnf) | (refine ⟨_, pick_at rfl (by first | omega | (simp only [plain_i64, plain_ints, plain_nil, all_ints]; done) | (dsimp only; omega) | exact Nat.le_of_ble_eq_true rfl | rfl | (simp; done) | (simp only [htf] at *; first | omega | (simp; omega))), ?_⟩; conv => whnf) | (refine ⟨_, rfl, ?_⟩; conv => whnf) | (first | refine iteP_true rfl ?_ | refine iteP_false rfl ?_ | refine iteP_true ‹_› ?_ | refine iteP_false ‹_› ?_; conv => whnf) | (refine And.intro (by kernel_rfl : indep _ _ = true) ?_; conv => whnf) | (refine And.intro (by rfl : List.all _ _ = true) ?_; conv => whnf) | (refine And.intro (by first | omega | (simp only [plain_i64, plain_ints, plain_nil, all_ints]; done) | (dsimp only; omega) | exact Nat.le_of_ble_eq_true rfl | rfl | (simp; done) | (simp only [htf] at *; first | omega | (simp; omega))) ?_; conv => whnf) | (refine iteP_intro (fun hb => ?_) (fun hb => ?_) <;> (conv => whnf)))
    (refine ⟨_, hc, ?_⟩; conv => whnf)
    repeat' (first | (refine opt_some (getC_rows rfl rfl (by omega)) ?_; conv => whnf) | (refine opt_some (by dsimp only; exact getC_lent rfl rfl (by omega)) ?_; conv => whnf) | (refine opt_some rfl ?_; conv => whnf) | (refine ⟨_, (by simp only [nf, nl, nm, en, ints, setC_setC, Nat.reduceAdd, Nat.reduceMul]; exact rfl), ?_⟩; conv => whnf) | (refine ⟨_, pick_at rfl (by first | omega | (simp only [plain_i64, plain_ints, plain_nil, all_ints]; done) | (dsimp only; omega) | exact Nat.le_of_ble_eq_true rfl | rfl | (simp; done) | (simp only [htf] at *; first | omega | (simp; omega))), ?_⟩; conv => whnf) | (refine ⟨_, rfl, ?_⟩; conv => whnf) | (first | refine iteP_true rfl ?_ | refine iteP_false rfl ?_ | refine iteP_true ‹_› ?_ | refine iteP_false ‹_› ?_; conv => whnf) | (refine And.intro (by kernel_rfl : indep _ _ = true) ?_; conv => whnf) | (refine And.intro (by rfl : List.all _ _ = true) ?_; conv => whnf) | (refine And.intro (by first | omega | (simp only [plain_i64, plain_ints, plain_nil, all_ints]; done) | (dsimp only; omega) | exact Nat.le_of_ble_eq_true rfl | rfl | (simp; done) | (simp only [htf] at *; first | omega | (simp; omega))) ?_; conv => whnf) | (refine iteP_intro (fun hb => ?_) (fun hb => ?_) <;> (conv => whnf)))
    refine ⟨fun k vs => ∃ (i R : Nat) (es : MemoN), i ≤ w.length ∧ KnownC ms w es ∧ R + rkN ms (w.drop i) = rkN ms w ∧ R + clsW ms (w.drop i) ≤ clsW ms w ∧ vs = [.one (.ptr [.shd (ints (natI ms)), memoN es]), .one (i64 R), .one (i64 w.length), .one (i64 i), .one (.shd (ints (natI (w.drop i)))), .one (.shd (ints (natI w)))] ∧ k = w.length - i, rfl, ⟨_, 0, 0, es0, by omega, hk0, by simp, by simp, ?_, rfl⟩, ?_⟩
    · rw [← hwn]
      rfl
    rintro k vs ⟨i, R, es, hi, hk, hR1, hR2, rfl, rfl⟩
    unfold memoN
    repeat (first | (refine opt_some (getC_rows rfl rfl (by omega)) ?_; conv => whnf) | (refine opt_some (by dsimp only; exact getC_lent rfl rfl (by omega)) ?_; conv => whnf) | (refine opt_some rfl ?_; conv => whnf) | (refine ⟨_, (by simp only [nf, nl, nm, en, ints, setC_setC, Nat.reduceAdd, Nat.reduceMul]; exact rfl), ?_⟩; conv => whnf) | (refine ⟨_, pick_at rfl (by first | omega | (simp only [plain_i64, plain_ints, plain_nil, all_ints]; done) | (dsimp only; omega) | exact Nat.le_of_ble_eq_true rfl | rfl | (simp; done) | (simp only [htf] at *; first | omega | (simp; omega))), ?_⟩; conv => whnf) | (refine ⟨_, rfl, ?_⟩; conv => whnf) | (first | refine iteP_true rfl ?_ | refine iteP_false rfl ?_ | refine iteP_true ‹_› ?_ | refine iteP_false ‹_› ?_; conv => whnf) | (refine And.intro (by kernel_rfl : indep _ _ = true) ?_; conv => whnf) | (refine And.intro (by rfl : List.all _ _ = true) ?_; conv => whnf) | (refine And.intro (by first | omega | (simp only [plain_i64, plain_ints, plain_nil, all_ints]; done) | (dsimp only; omega) | exact Nat.le_of_ble_eq_true rfl | rfl | (simp; done) | (simp only [htf] at *; first | omega | (simp; omega))) ?_; conv => whnf))
    refine iteP_intro (fun hb => ?_) (fun hb => ?_) <;> (conv => whnf)
    · have hi' : i < w.length := by have := leT hb; omega
      have hg : (natI w)[i]'(by rw [hwn]; exact hi') = ((w.getD i 0 : Nat) : Int) := natI_getD hi'
      have hdr := rkN_drop (ms := ms) hi'
      have hcd := cls_drop hw hi'
      have ha := wd_lt hw hi'
      have hne : w.drop i ≠ [] := fun e => by have := congrArg List.length e; rw [List.length_drop] at this; simp at this; omega
      have hrw := wd_drop hw i
      have hrl : (w.drop i).length ≤ 24 := by rw [List.length_drop]; omega
      have hrn := natI_length (w.drop i)
      have hsf := sfx_drop (ms := ms) (w := w) i
      have her : (w.drop i).erase (w.getD i 0) = w.drop (i + 1) := by rw [drop_getD hi', List.erase_cons_head]
      have hmm : w.getD i 0 ∈ w.drop i := by rw [drop_getD hi']; simp
      generalize w.drop i = r at hdr hcd hne hrw hrl hrn hR1 hR2 hsf her hmm
      generalize w.getD i 0 = a at hg hdr hcd ha her hmm
      have hfi := firsts_ret ms r (by omega) hA.lt hrw (by omega)
      have hp1 := Nat.two_pow_pos a
      have hp2 : 2 ^ a < 2 ^ 62 := Nat.pow_lt_pow_right (by decide) (by omega)
      have hsub : IntKind.i64.wrap (((2 ^ a : Nat) : Int) - 1) = ((2 ^ a - 1 : Nat) : Int) := by rw [wrap_i64 (by omega) (by omega)]; omega
      have hand := and_i64 (a := fstM ms r) (b := 2 ^ a - 1) (maskN_lt63 _ (by omega))
      rw [show fstM ms r &&& (2 ^ a - 1) = maskN (fun b => canF ms b r) a from mask_below _ (by omega)] at hand
      have hmb : Ret Tryd.prog G0 68 [⟨.ro, .one (i64 (maskN (fun b => canF ms b r) a : Nat))⟩] ⟨.one (ints (natI (fstB ms r a))), []⟩ := by
        have := members_ret (maskN (fun b => canF ms b r) a) (maskN_lt63 _ (by omega))
        rw [mems_mask _ (by omega)] at this
        exact this
      repeat (first | (refine opt_some (getC_rows rfl rfl (by omega)) ?_; conv => whnf) | (refine opt_some (by dsimp only; exact getC_lent rfl rfl (by omega)) ?_; conv => whnf) | (refine opt_some rfl ?_; conv => whnf) | (refine ⟨_, (by simp only [nf, nl, nm, en, ints, setC_setC, Nat.reduceAdd, Nat.reduceMul, hg]; exact rfl), ?_⟩; conv => whnf) | (refine ⟨_, pick_at rfl (by first | omega | (simp only [plain_i64, plain_ints, plain_nil, all_ints]; done) | (dsimp only; omega) | exact Nat.le_of_ble_eq_true rfl | rfl | (simp; done) | (simp only [htf] at *; first | omega | (simp; omega))), ?_⟩; conv => whnf) | (refine ⟨_, rfl, ?_⟩; conv => whnf) | (first | refine iteP_true rfl ?_ | refine iteP_false rfl ?_ | refine iteP_true ‹_› ?_ | refine iteP_false ‹_› ?_; conv => whnf) | (refine And.intro (by kernel_rfl : indep _ _ = true) ?_; conv => whnf) | (refine And.intro (by rfl : List.all _ _ = true) ?_; conv => whnf) | (refine And.intro (by first | omega | (simp only [plain_i64, plain_ints, plain_nil, all_ints]; done) | (dsimp only; omega) | exact Nat.le_of_ble_eq_true rfl | rfl | (simp; done) | (simp only [htf] at *; first | omega | (simp; omega))) ?_; conv => whnf))
      (refine ⟨_, hfi, ?_⟩; conv => whnf)
      repeat (first | (refine opt_some (getC_rows rfl rfl (by omega)) ?_; conv => whnf) | (refine opt_some (by dsimp only; exact getC_lent rfl rfl (by omega)) ?_; conv => whnf) | (refine opt_some rfl ?_; conv => whnf) | (refine ⟨_, (by simp only [nf, nl, nm, en, ints, setC_setC, Nat.reduceAdd, Nat.reduceMul]; exact rfl), ?_⟩; conv => whnf) | (refine ⟨_, pick_at rfl (by first | omega | (simp only [plain_i64, plain_ints, plain_nil, all_ints]; done) | (dsimp only; omega) | exact Nat.le_of_ble_eq_true rfl | rfl | (simp; done) | (simp only [htf] at *; first | omega | (simp; omega))), ?_⟩; conv => whnf) | (refine ⟨_, rfl, ?_⟩; conv => whnf) | (first | refine iteP_true rfl ?_ | refine iteP_false rfl ?_ | refine iteP_true ‹_› ?_ | refine iteP_false ‹_› ?_; conv => whnf) | (refine And.intro (by kernel_rfl : indep _ _ = true) ?_; conv => whnf) | (refine And.intro (by rfl : List.all _ _ = true) ?_; conv => whnf) | (refine And.intro (by first | omega | (simp only [plain_i64, plain_ints, plain_nil, all_ints]; done) | (dsimp only; omega) | exact Nat.le_of_ble_eq_true rfl | rfl | (simp; done) | (simp only [htf] at *; first | omega | (simp; omega))) ?_; conv => whnf))
      (refine ⟨_, one_retN a (by omega), ?_⟩; conv => whnf)
      repeat (first | (refine opt_some (getC_rows rfl rfl (by omega)) ?_; conv => whnf) | (refine opt_some (by dsimp only; exact getC_lent rfl rfl (by omega)) ?_; conv => whnf) | (refine opt_some rfl ?_; conv => whnf) | (refine ⟨_, (by simp only [nf, nl, nm, en, ints, setC_setC, Nat.reduceAdd, Nat.reduceMul, hsub, hand]; exact rfl), ?_⟩; conv => whnf) | (refine ⟨_, pick_at rfl (by first | omega | (simp only [plain_i64, plain_ints, plain_nil, all_ints]; done) | (dsimp only; omega) | exact Nat.le_of_ble_eq_true rfl | rfl | (simp; done) | (simp only [htf] at *; first | omega | (simp; omega))), ?_⟩; conv => whnf) | (refine ⟨_, rfl, ?_⟩; conv => whnf) | (first | refine iteP_true rfl ?_ | refine iteP_false rfl ?_ | refine iteP_true ‹_› ?_ | refine iteP_false ‹_› ?_; conv => whnf) | (refine And.intro (by kernel_rfl : indep _ _ = true) ?_; conv => whnf) | (refine And.intro (by rfl : List.all _ _ = true) ?_; conv => whnf) | (refine And.intro (by first | omega | (simp only [plain_i64, plain_ints, plain_nil, all_ints]; done) | (dsimp only; omega) | exact Nat.le_of_ble_eq_true rfl | rfl | (simp; done) | (simp only [htf] at *; first | omega | (simp; omega))) ?_; conv => whnf))
      (refine ⟨_, hmb, ?_⟩; conv => whnf)
      have hfl := natI_length (fstB ms r a)
      have hf64 : (fstB ms r a).length ≤ 64 := by
        have := List.length_filter_le (fun b => canF ms b r) (List.range a)
        rw [List.length_range] at this
        unfold fstB
        omega
      repeat (first | (refine opt_some (getC_rows rfl rfl (by omega)) ?_; conv => whnf) | (refine opt_some (by dsimp only; exact getC_lent rfl rfl (by omega)) ?_; conv => whnf) | (refine opt_some rfl ?_; conv => whnf) | (refine ⟨_, (by simp only [nf, nl, nm, en, ints, setC_setC, Nat.reduceAdd, Nat.reduceMul]; exact rfl), ?_⟩; conv => whnf) | (refine ⟨_, pick_at rfl (by first | omega | (simp only [plain_i64, plain_ints, plain_nil, all_ints]; done) | (dsimp only; omega) | exact Nat.le_of_ble_eq_true rfl | rfl | (simp; done) | (simp only [htf] at *; first | omega | (simp; omega))), ?_⟩; conv => whnf) | (refine ⟨_, rfl, ?_⟩; conv => whnf) | (first | refine iteP_true rfl ?_ | refine iteP_false rfl ?_ | refine iteP_true ‹_› ?_ | refine iteP_false ‹_› ?_; conv => whnf) | (refine And.intro (by kernel_rfl : indep _ _ = true) ?_; conv => whnf) | (refine And.intro (by rfl : List.all _ _ = true) ?_; conv => whnf) | (refine And.intro (by first | omega | (simp only [plain_i64, plain_ints, plain_nil, all_ints]; done) | (dsimp only; omega) | exact Nat.le_of_ble_eq_true rfl | rfl | (simp; done) | (simp only [htf] at *; first | omega | (simp; omega))) ?_; conv => whnf))
      refine ⟨fun k vs => ∃ (j : Nat) (es : MemoN), j ≤ (fstB ms r a).length ∧ KnownC ms w es ∧ vs = [.one (.ptr [.shd (ints (natI ms)), memoN es]), .one (i64 (R + (((fstB ms r a).take j).map fun b => clsW ms (r.erase b)).sum : Nat)), .one (i64 a), .one (i64 w.length), .one (i64 i), .one (ints (natI (fstB ms r a))), .one (i64 (fstB ms r a).length), .one (i64 j), .one (.shd (ints (natI r))), .one (.shd (ints (natI w)))] ∧ k = (fstB ms r a).length - j, rfl, ⟨_, 0, es, by omega, hk, ?_, rfl⟩, ?_⟩
      · rw [← hfl, ← hwn]
        rfl
      rintro k vs ⟨j, es, hj, hk, rfl, rfl⟩
      unfold memoN
      have hall := fstB_sum ms r a
      repeat (first | (refine opt_some (getC_rows rfl rfl (by omega)) ?_; conv => whnf) | (refine opt_some (by dsimp only; exact getC_lent rfl rfl (by omega)) ?_; conv => whnf) | (refine opt_some rfl ?_; conv => whnf) | (refine ⟨_, (by simp only [nf, nl, nm, en, ints, setC_setC, Nat.reduceAdd, Nat.reduceMul]; exact rfl), ?_⟩; conv => whnf) | (refine ⟨_, pick_at rfl (by first | omega | (simp only [plain_i64, plain_ints, plain_nil, all_ints]; done) | (dsimp only; omega) | exact Nat.le_of_ble_eq_true rfl | rfl | (simp; done) | (simp only [htf] at *; first | omega | (simp; omega))), ?_⟩; conv => whnf) | (refine ⟨_, rfl, ?_⟩; conv => whnf) | (first | refine iteP_true rfl ?_ | refine iteP_false rfl ?_ | refine iteP_true ‹_› ?_ | refine iteP_false ‹_› ?_; conv => whnf) | (refine And.intro (by kernel_rfl : indep _ _ = true) ?_; conv => whnf) | (refine And.intro (by rfl : List.all _ _ = true) ?_; conv => whnf) | (refine And.intro (by first | omega | (simp only [plain_i64, plain_ints, plain_nil, all_ints]; done) | (dsimp only; omega) | exact Nat.le_of_ble_eq_true rfl | rfl | (simp; done) | (simp only [htf] at *; first | omega | (simp; omega))) ?_; conv => whnf))
      refine iteP_intro (fun hb => ?_) (fun hb => ?_) <;> (conv => whnf)
      · have hj' : j < (fstB ms r a).length := by have := leT hb; omega
        have hgb : (natI (fstB ms r a))[j]'(by rw [hfl]; exact hj') = (((fstB ms r a)[j] : Nat) : Int) := natI_get _
        obtain ⟨hb1, hb2⟩ := fstB_mem.1 (List.getElem_mem hj')
        have hsuc : ((fstB ms r a).take (j + 1)).map (fun b => clsW ms (r.erase b)) = ((fstB ms r a).take j).map (fun b => clsW ms (r.erase b)) ++ [clsW ms (r.erase (fstB ms r a)[j])] := take_succ_map hj'
        have hle := sum_take_le ((fstB ms r a).map fun b => clsW ms (r.erase b)) (j + 1)
        rw [← List.map_take, hall, hsuc] at hle
        rw [List.sum_append] at hle
        simp only [List.sum_cons, List.sum_nil, Nat.add_zero] at hle
        have hsu : (((fstB ms r a).take (j + 1)).map fun b => clsW ms (r.erase b)).sum = (((fstB ms r a).take j).map fun b => clsW ms (r.erase b)).sum + clsW ms (r.erase (fstB ms r a)[j]) := by
          rw [hsuc, List.sum_append]
          simp
        generalize (((fstB ms r a).take j).map fun b => clsW ms (r.erase b)).sum = S at hle hsu
        generalize (fstB ms r a)[j] = b at hgb hb1 hb2 hle hsu
        have hel := erase_length (canF_mem hb2)
        obtain ⟨hv, hk2⟩ := goC_val (es := es) hA (r := r.erase b) (by omega) (hrw.erase b) (sfx_erase hA hsf hb2) hk (by omega)
        have hrec := wcount_ret ms w hA hl _ (by omega) (r.erase b) es rfl (hrw.erase b) (sfx_erase hA hsf hb2) hk
        have hwo := without_ret r b (by omega) (canF_mem hb2)
        rw [hv] at hrec
        generalize (goC ms (r.erase b).length (r.erase b) es).2 = es2 at hk2 hrec
        generalize clsW ms (r.erase b) = q at hle hsu hrec
        have hadd : IntKind.i64.wrap (((R + S : Nat) : Int) + (q : Int)) = ((R + S + q : Nat) : Int) := by rw [wrap_i64 (by omega) (by omega)]; omega
        unfold memoN at hrec
        repeat (first | (refine opt_some (getC_rows rfl rfl (by omega)) ?_; conv => whnf) | (refine opt_some (by dsimp only; exact getC_lent rfl rfl (by omega)) ?_; conv => whnf) | (refine opt_some rfl ?_; conv => whnf) | (refine ⟨_, (by simp only [nf, nl, nm, en, ints, setC_setC, Nat.reduceAdd, Nat.reduceMul, hgb]; exact rfl), ?_⟩; conv => whnf) | (refine ⟨_, pick_at rfl (by first | omega | (simp only [plain_i64, plain_ints, plain_nil, all_ints]; done) | (dsimp only; omega) | exact Nat.le_of_ble_eq_true rfl | rfl | (simp; done) | (simp only [htf] at *; first | omega | (simp; omega))), ?_⟩; conv => whnf) | (refine ⟨_, rfl, ?_⟩; conv => whnf) | (first | refine iteP_true rfl ?_ | refine iteP_false rfl ?_ | refine iteP_true ‹_› ?_ | refine iteP_false ‹_› ?_; conv => whnf) | (refine And.intro (by kernel_rfl : indep _ _ = true) ?_; conv => whnf) | (refine And.intro (by rfl : List.all _ _ = true) ?_; conv => whnf) | (refine And.intro (by first | omega | (simp only [plain_i64, plain_ints, plain_nil, all_ints]; done) | (dsimp only; omega) | exact Nat.le_of_ble_eq_true rfl | rfl | (simp; done) | (simp only [htf] at *; first | omega | (simp; omega))) ?_; conv => whnf))
        (refine ⟨_, hwo, ?_⟩; conv => whnf)
        repeat (first | (refine opt_some (getC_rows rfl rfl (by omega)) ?_; conv => whnf) | (refine opt_some (by dsimp only; exact getC_lent rfl rfl (by omega)) ?_; conv => whnf) | (refine opt_some rfl ?_; conv => whnf) | (refine ⟨_, (by simp only [nf, nl, nm, en, ints, setC_setC, Nat.reduceAdd, Nat.reduceMul]; exact rfl), ?_⟩; conv => whnf) | (refine ⟨_, pick_at rfl (by first | omega | (simp only [plain_i64, plain_ints, plain_nil, all_ints]; done) | (dsimp only; omega) | exact Nat.le_of_ble_eq_true rfl | rfl | (simp; done) | (simp only [htf] at *; first | omega | (simp; omega))), ?_⟩; conv => whnf) | (refine ⟨_, rfl, ?_⟩; conv => whnf) | (first | refine iteP_true rfl ?_ | refine iteP_false rfl ?_ | refine iteP_true ‹_› ?_ | refine iteP_false ‹_› ?_; conv => whnf) | (refine And.intro (by kernel_rfl : indep _ _ = true) ?_; conv => whnf) | (refine And.intro (by rfl : List.all _ _ = true) ?_; conv => whnf) | (refine And.intro (by first | omega | (simp only [plain_i64, plain_ints, plain_nil, all_ints]; done) | (dsimp only; omega) | exact Nat.le_of_ble_eq_true rfl | rfl | (simp; done) | (simp only [htf] at *; first | omega | (simp; omega))) ?_; conv => whnf))
        (refine ⟨_, hrec, ?_⟩; conv => whnf)
        repeat (first | (refine opt_some (getC_rows rfl rfl (by omega)) ?_; conv => whnf) | (refine opt_some (by dsimp only; exact getC_lent rfl rfl (by omega)) ?_; conv => whnf) | (refine opt_some rfl ?_; conv => whnf) | (refine ⟨_, (by simp only [nf, nl, nm, en, ints, setC_setC, Nat.reduceAdd, Nat.reduceMul, hadd]; exact rfl), ?_⟩; conv => whnf) | (refine ⟨_, pick_at rfl (by first | omega | (simp only [plain_i64, plain_ints, plain_nil, all_ints]; done) | (dsimp only; omega) | exact Nat.le_of_ble_eq_true rfl | rfl | (simp; done) | (simp only [htf] at *; first | omega | (simp; omega))), ?_⟩; conv => whnf) | (refine ⟨_, rfl, ?_⟩; conv => whnf) | (first | refine iteP_true rfl ?_ | refine iteP_false rfl ?_ | refine iteP_true ‹_› ?_ | refine iteP_false ‹_› ?_; conv => whnf) | (refine And.intro (by kernel_rfl : indep _ _ = true) ?_; conv => whnf) | (refine And.intro (by rfl : List.all _ _ = true) ?_; conv => whnf) | (refine And.intro (by first | omega | (simp only [plain_i64, plain_ints, plain_nil, all_ints]; done) | (dsimp only; omega) | exact Nat.le_of_ble_eq_true rfl | rfl | (simp; done) | (simp only [htf] at *; first | omega | (simp; omega))) ?_; conv => whnf))
        refine ⟨_, ?_, j + 1, es2, hj', hk2, ?_, rfl⟩
        · omega
        · rw [wrap_succ (by omega), hsu, ← Nat.add_assoc]
          rfl
      · obtain rfl : j = (fstB ms r a).length := by have := leF hb; omega
        rw [List.take_length, hall]
        have hwo := without_ret r a (by omega) hmm
        rw [her] at hwo
        repeat (first | (refine opt_some (getC_rows rfl rfl (by omega)) ?_; conv => whnf) | (refine opt_some (by dsimp only; exact getC_lent rfl rfl (by omega)) ?_; conv => whnf) | (refine opt_some rfl ?_; conv => whnf) | (refine ⟨_, (by simp only [nf, nl, nm, en, ints, setC_setC, Nat.reduceAdd, Nat.reduceMul]; exact rfl), ?_⟩; conv => whnf) | (refine ⟨_, pick_at rfl (by first | omega | (simp only [plain_i64, plain_ints, plain_nil, all_ints]; done) | (dsimp only; omega) | exact Nat.le_of_ble_eq_true rfl | rfl | (simp; done) | (simp only [htf] at *; first | omega | (simp; omega))), ?_⟩; conv => whnf) | (refine ⟨_, rfl, ?_⟩; conv => whnf) | (first | refine iteP_true rfl ?_ | refine iteP_false rfl ?_ | refine iteP_true ‹_› ?_ | refine iteP_false ‹_› ?_; conv => whnf) | (refine And.intro (by kernel_rfl : indep _ _ = true) ?_; conv => whnf) | (refine And.intro (by rfl : List.all _ _ = true) ?_; conv => whnf) | (refine And.intro (by first | omega | (simp only [plain_i64, plain_ints, plain_nil, all_ints]; done) | (dsimp only; omega) | exact Nat.le_of_ble_eq_true rfl | rfl | (simp; done) | (simp only [htf] at *; first | omega | (simp; omega))) ?_; conv => whnf))
        (refine ⟨_, hwo, ?_⟩; conv => whnf)
        repeat (first | (refine opt_some (getC_rows rfl rfl (by omega)) ?_; conv => whnf) | (refine opt_some (by dsimp only; exact getC_lent rfl rfl (by omega)) ?_; conv => whnf) | (refine opt_some rfl ?_; conv => whnf) | (refine ⟨_, (by simp only [nf, nl, nm, en, ints, setC_setC, Nat.reduceAdd, Nat.reduceMul]; exact rfl), ?_⟩; conv => whnf) | (refine ⟨_, pick_at rfl (by first | omega | (simp only [plain_i64, plain_ints, plain_nil, all_ints]; done) | (dsimp only; omega) | exact Nat.le_of_ble_eq_true rfl | rfl | (simp; done) | (simp only [htf] at *; first | omega | (simp; omega))), ?_⟩; conv => whnf) | (refine ⟨_, rfl, ?_⟩; conv => whnf) | (first | refine iteP_true rfl ?_ | refine iteP_false rfl ?_ | refine iteP_true ‹_› ?_ | refine iteP_false ‹_› ?_; conv => whnf) | (refine And.intro (by kernel_rfl : indep _ _ = true) ?_; conv => whnf) | (refine And.intro (by rfl : List.all _ _ = true) ?_; conv => whnf) | (refine And.intro (by first | omega | (simp only [plain_i64, plain_ints, plain_nil, all_ints]; done) | (dsimp only; omega) | exact Nat.le_of_ble_eq_true rfl | rfl | (simp; done) | (simp only [htf] at *; first | omega | (simp; omega))) ?_; conv => whnf))
        refine ⟨_, ?_, i + 1, R + sumN (trk ms r) a, es, hi', hk, by omega, by omega, ?_, rfl⟩
        · omega
        · rw [wrap_succ (by omega)]
          rfl
    · obtain rfl : i = w.length := by have := leF hb; omega
      rw [List.drop_length, rkN, Nat.add_zero] at hR1
      repeat' (first | (refine opt_some (getC_rows rfl rfl (by omega)) ?_; conv => whnf) | (refine opt_some (by dsimp only; exact getC_lent rfl rfl (by omega)) ?_; conv => whnf) | (refine opt_some rfl ?_; conv => whnf) | (refine ⟨_, (by simp only [nf, nl, nm, en, ints, setC_setC, Nat.reduceAdd, Nat.reduceMul]; exact rfl), ?_⟩; conv => whnf) | (refine ⟨_, pick_at rfl (by first | omega | (simp only [plain_i64, plain_ints, plain_nil, all_ints]; done) | (dsimp only; omega) | exact Nat.le_of_ble_eq_true rfl | rfl | (simp; done) | (simp only [htf] at *; first | omega | (simp; omega))), ?_⟩; conv => whnf) | (refine ⟨_, rfl, ?_⟩; conv => whnf) | (first | refine iteP_true rfl ?_ | refine iteP_false rfl ?_ | refine iteP_true ‹_› ?_ | refine iteP_false ‹_› ?_; conv => whnf) | (refine And.intro (by kernel_rfl : indep _ _ = true) ?_; conv => whnf) | (refine And.intro (by rfl : List.all _ _ = true) ?_; conv => whnf) | (refine And.intro (by first | omega | (simp only [plain_i64, plain_ints, plain_nil, all_ints]; done) | (dsimp only; omega) | exact Nat.le_of_ble_eq_true rfl | rfl | (simp; done) | (simp only [htf] at *; first | omega | (simp; omega))) ?_; conv => whnf) | (refine iteP_intro (fun hb => ?_) (fun hb => ?_) <;> (conv => whnf)))
      rw [← hR1]
      rfl
  · rw [rnkR_bad h]
    rw [if_neg h] at hc
    generalize clsR n ds xs = q at h hc
    have hcb : (q.2 != 0) = true := by simpa using h
    (refine ret_of_den (E := en 61 [] (fun | 6 => [(6, 0), (9, 0), (27, 0), (28, 0), (10, 1), (26, 1)] | 9 => [(6, 0), (9, 0), (12, 0), (27, 0), (28, 0), (42, 0), (43, 0), (44, 0), (10, 1), (26, 1)] | _ => []) (fun _ => [])) tt_ok mixed Tryd.func27 rfl rfl rfl rfl ?_; refine ⟨by simp, ?_⟩)
    repeat' (first | (refine opt_some (getC_rows rfl rfl (by omega)) ?_; conv => whnf) | (refine opt_some (by dsimp only; exact getC_lent rfl rfl (by omega)) ?_; conv => whnf) | (refine opt_some rfl ?_; conv => whnf) | (refine ⟨_, (by simp only [nf, nl, nm, en, ints, setC_setC, Nat.reduceAdd, Nat.reduceMul]; exact rfl), ?_⟩; conv => whnf) | (refine ⟨_, pick_at rfl (by first | omega | (simp only [plain_i64, plain_ints, plain_nil, all_ints]; done) | (dsimp only; omega) | exact Nat.le_of_ble_eq_true rfl | rfl | (simp; done) | (simp only [htf] at *; first | omega | (simp; omega))), ?_⟩; conv => whnf) | (refine ⟨_, rfl, ?_⟩; conv => whnf) | (first | refine iteP_true rfl ?_ | refine iteP_false rfl ?_ | refine iteP_true ‹_› ?_ | refine iteP_false ‹_› ?_; conv => whnf) | (refine And.intro (by kernel_rfl : indep _ _ = true) ?_; conv => whnf) | (refine And.intro (by rfl : List.all _ _ = true) ?_; conv => whnf) | (refine And.intro (by first | omega | (simp only [plain_i64, plain_ints, plain_nil, all_ints]; done) | (dsimp only; omega) | exact Nat.le_of_ble_eq_true rfl | rfl | (simp; done) | (simp only [htf] at *; first | omega | (simp; omega))) ?_; conv => whnf) | (refine iteP_intro (fun hb => ?_) (fun hb => ?_) <;> (conv => whnf)))
    (refine ⟨_, hc, ?_⟩; conv => whnf)
    repeat' (first | (refine opt_some (getC_rows rfl rfl (by omega)) ?_; conv => whnf) | (refine opt_some (by dsimp only; exact getC_lent rfl rfl (by omega)) ?_; conv => whnf) | (refine opt_some rfl ?_; conv => whnf) | (refine ⟨_, (by simp only [nf, nl, nm, en, ints, setC_setC, Nat.reduceAdd, Nat.reduceMul]; exact rfl), ?_⟩; conv => whnf) | (refine ⟨_, pick_at rfl (by first | omega | (simp only [plain_i64, plain_ints, plain_nil, all_ints]; done) | (dsimp only; omega) | exact Nat.le_of_ble_eq_true rfl | rfl | (simp; done) | (simp only [htf] at *; first | omega | (simp; omega))), ?_⟩; conv => whnf) | (refine ⟨_, rfl, ?_⟩; conv => whnf) | (first | refine iteP_true rfl ?_ | refine iteP_false rfl ?_ | refine iteP_true ‹_› ?_ | refine iteP_false ‹_› ?_; conv => whnf) | (refine And.intro (by kernel_rfl : indep _ _ = true) ?_; conv => whnf) | (refine And.intro (by rfl : List.all _ _ = true) ?_; conv => whnf) | (refine And.intro (by first | omega | (simp only [plain_i64, plain_ints, plain_nil, all_ints]; done) | (dsimp only; omega) | exact Nat.le_of_ble_eq_true rfl | rfl | (simp; done) | (simp only [htf] at *; first | omega | (simp; omega))) ?_; conv => whnf) | (refine iteP_intro (fun hb => ?_) (fun hb => ?_) <;> (conv => whnf)))
    rfl
end Go.Proofs.YtljhmkkmcbfffaaDoor
