import Derived.Test.YtihdeagknggeiaaDoorFzc
set_option autoImplicit false
set_option linter.unusedSimpArgs false
set_option linter.unusedVariables false
namespace Go.Proofs.YtihdeagknggeiaaDoor
open Go.Den
theorem sumI_app : ∀ (a b : List Int), sumI (a ++ b) = sumI a + sumI b
  | [], b => by simp [sumI]
  | x :: a, b => by rw [List.cons_append, sumI, sumI, sumI_app a b]; omega
theorem scan_take {xs : List Int} (h : scanC xs 0 = true) (i : Nat) : sumI (xs.take i) ≤ 24 := by
  obtain ⟨h1, h2⟩ := (scan_iff (by omega)).1 h
  have h3 := sumI_app (xs.take i) (xs.drop i)
  rw [List.take_append_drop] at h3
  have h4 := sumI_nn (r := xs.drop i) fun x hx => (h1 x (List.mem_of_mem_drop hx)).1
  omega
theorem wgt_le2 {c : List Nat} : ∀ n, (∀ b < n, c.getD b 0 ≤ 24) → wgt c n ≤ 25 ^ n
  | 0, _ => Nat.le_refl _
  | n + 1, h => by
    have h1 := h n (by omega)
    rw [wgt, Nat.pow_succ]
    exact Nat.mul_le_mul (wgt_le2 n fun b hb => h b (by omega)) (by omega)
theorem dropW_pos {c : List Nat} {s : Nat} (h0 : s ≠ 0) (hs : s < 2 ^ c.length) : 0 < dropW c s c.length := by
  have : ∃ a, s.testBit a = true := by
    refine Classical.byContradiction fun hn => h0 (Nat.eq_of_testBit_eq fun a => ?_)
    rw [Nat.zero_testBit]
    cases ha : s.testBit a with
    | false => rfl
    | true => exact absurd ⟨a, ha⟩ hn
  obtain ⟨a, ha⟩ := this
  have hal : a < c.length := Nat.lt_of_not_le fun hn => by
    rw [Nat.testBit_lt_two_pow (Nat.lt_of_lt_of_le hs (Nat.pow_le_pow_right (by decide) hn))] at ha
    cases ha
  have h1 := smN_le (f := fun b => if s.testBit b then wgt c b else 0) c.length hal
  simp only [ha, if_true] at h1
  have h2 := wgt_pos c a
  unfold dropW
  omega
theorem dropW_succ (c : List Nat) (s a : Nat) : dropW c s (a + 1) = dropW c s a + if s.testBit a then wgt c a else 0 := rfl
set_option maxHeartbeats 16000000 in
set_option maxRecDepth 100000 in
theorem coS_ret (n : Int) (ds xs : List Int) (hd : ds.length < 2 ^ 62) (hx : xs.length < 2 ^ 62) : Ret Tryd.prog G0 13 [⟨.ro, .agg [i64 n, ints ds]⟩, ⟨.ro, .one (ints xs)⟩] ⟨.tup [(false, [i64 (coR n ds xs).1]), (false, [i64 (coR n ds xs).2])], []⟩ := by
  have hI := l02Is_ret n ds hd
  cases h1 : alphaOk n ds with
  | false =>
    rw [coR_bad h1]
    rw [h1] at hI
    (refine ret_of_den (E := en 142 [] (fun | 8 => [(2, 0), (6, 0), (7, 0), (8, 0), (9, 0), (1, 1)] | 21 => [(2, 0), (7, 0), (8, 0), (10, 0), (11, 0), (12, 0), (1, 1)] | 24 => [(2, 0), (7, 0), (8, 0), (10, 0), (11, 0), (12, 0), (13, 0), (1, 1)] | 28 => [(2, 0), (7, 0), (8, 0), (10, 0), (11, 0), (12, 0), (13, 0), (14, 0), (15, 0), (16, 0), (1, 1)] | _ => []) (fun _ => [])) tt_ok mixed Tryd.func13 rfl rfl rfl rfl ?_; refine ⟨by simp, ?_⟩)
    repeat' (first | ((first | refine opt_some (getC_rows rfl rfl (by omega)) ?_ | refine opt_some (by dsimp only; exact getC_lent rfl rfl (by omega)) ?_ | refine opt_some rfl ?_ | refine ⟨_, (by simp only [nf, nl, nm, en, ints, setC_setC, Nat.reduceAdd, Nat.reduceMul]; exact rfl), ?_⟩ | refine ⟨_, pickT rfl, ?_⟩ | refine ⟨_, rfl, ?_⟩ | refine iteP_true rfl ?_ | refine iteP_false rfl ?_ | refine iteP_true ‹_› ?_ | refine iteP_false ‹_› ?_ | refine andK ?_ | refine andA ?_ | refine andT ?_); conv => whnf) | (refine iteP_intro (fun hb => ?_) (fun hb => ?_) <;> (conv => whnf)))
    (refine ⟨_, hI, ?_⟩; conv => whnf)
    repeat' (first | ((first | refine opt_some (getC_rows rfl rfl (by omega)) ?_ | refine opt_some (by dsimp only; exact getC_lent rfl rfl (by omega)) ?_ | refine opt_some rfl ?_ | refine ⟨_, (by simp only [nf, nl, nm, en, ints, setC_setC, Nat.reduceAdd, Nat.reduceMul]; exact rfl), ?_⟩ | refine ⟨_, pickT rfl, ?_⟩ | refine ⟨_, rfl, ?_⟩ | refine iteP_true rfl ?_ | refine iteP_false rfl ?_ | refine iteP_true ‹_› ?_ | refine iteP_false ‹_› ?_ | refine andK ?_ | refine andA ?_ | refine andT ?_); conv => whnf) | (refine iteP_intro (fun hb => ?_) (fun hb => ?_) <;> (conv => whnf)))
    rfl
  | true =>
  rw [h1] at hI
  by_cases hln : (xs.length : Int) = n
  rotate_left
  · rw [coR_out h1 (by rw [decide_eq_false hln]; rfl)]
    have hne : ((xs.length : Int) != n) = true := by simpa using hln
    (refine ret_of_den (E := en 142 [] (fun | 8 => [(2, 0), (6, 0), (7, 0), (8, 0), (9, 0), (1, 1)] | 21 => [(2, 0), (7, 0), (8, 0), (10, 0), (11, 0), (12, 0), (1, 1)] | 24 => [(2, 0), (7, 0), (8, 0), (10, 0), (11, 0), (12, 0), (13, 0), (1, 1)] | 28 => [(2, 0), (7, 0), (8, 0), (10, 0), (11, 0), (12, 0), (13, 0), (14, 0), (15, 0), (16, 0), (1, 1)] | _ => []) (fun _ => [])) tt_ok mixed Tryd.func13 rfl rfl rfl rfl ?_; refine ⟨by simp, ?_⟩)
    repeat' (first | ((first | refine opt_some (getC_rows rfl rfl (by omega)) ?_ | refine opt_some (by dsimp only; exact getC_lent rfl rfl (by omega)) ?_ | refine opt_some rfl ?_ | refine ⟨_, (by simp only [nf, nl, nm, en, ints, setC_setC, Nat.reduceAdd, Nat.reduceMul]; exact rfl), ?_⟩ | refine ⟨_, pickT rfl, ?_⟩ | refine ⟨_, rfl, ?_⟩ | refine iteP_true rfl ?_ | refine iteP_false rfl ?_ | refine iteP_true ‹_› ?_ | refine iteP_false ‹_› ?_ | refine andK ?_ | refine andA ?_ | refine andT ?_); conv => whnf) | (refine iteP_intro (fun hb => ?_) (fun hb => ?_) <;> (conv => whnf)))
    (refine ⟨_, hI, ?_⟩; conv => whnf)
    repeat' (first | ((first | refine opt_some (getC_rows rfl rfl (by omega)) ?_ | refine opt_some (by dsimp only; exact getC_lent rfl rfl (by omega)) ?_ | refine opt_some rfl ?_ | refine ⟨_, (by simp only [nf, nl, nm, en, ints, setC_setC, Nat.reduceAdd, Nat.reduceMul, hne]; exact rfl), ?_⟩ | refine ⟨_, pickT rfl, ?_⟩ | refine ⟨_, rfl, ?_⟩ | refine iteP_true rfl ?_ | refine iteP_false rfl ?_ | refine iteP_true ‹_› ?_ | refine iteP_false ‹_› ?_ | refine andK ?_ | refine andA ?_ | refine andT ?_); conv => whnf) | (refine iteP_intro (fun hb => ?_) (fun hb => ?_) <;> (conv => whnf)))
    rfl
  have hne : ((xs.length : Int) != n) = false := by simpa using hln
  obtain ⟨ms, e1, rfl, rfl, hl, hA⟩ := alpha_ok h1
  have hxl : xs.length = ms.length := by omega
  have hc0 : ∃ c, xs.map Int.toNat = c := ⟨_, rfl⟩
  obtain ⟨c, c1⟩ := hc0
  have hcl : c.length = ms.length := by rw [← c1, List.length_map, hxl]
  have hcx : ∀ a (h : a < xs.length), 0 ≤ xs[a] → xs[a] = ((c.getD a 0 : Nat) : Int) := fun a h h0 => by
    rw [← c1, List.getD_eq_getElem?_getD, List.getElem?_map, List.getElem?_eq_getElem h]
    show xs[a] = ((xs[a].toNat : Nat) : Int)
    omega
  have hS2 := l02Steps_ret ms hA hl
  have hp8 : 2 ^ ms.length ≤ 2 ^ 8 := Nat.pow_le_pow_right (by decide) hl
  have hp25 : 25 ^ ms.length ≤ 25 ^ 8 := Nat.pow_le_pow_right (by decide) hl
  have hSS : ∃ S, stepL (dep ms) ms.length = S ∧ S.length ≤ 256 ∧ (∀ s ∈ S, s < 2 ^ ms.length) ∧ S[0]? = some 0 ∧ ∀ i (h : i < S.length), 0 < i → S[i] ≠ 0 := ⟨_, rfl, Nat.le_trans (stepL_len _ _) hp8, fun s hs => stepL_lt hs, stepL_zero _ _, fun i hi h0 => stepL_pos _ _ hi h0⟩
  obtain ⟨S, hSe, hSl, hSm, hSz, hSp⟩ := hSS
  rw [hSe] at hS2
  have hSn := natI_length S
  have hS63 : ∀ s ∈ S, s < 2 ^ 63 := fun s hs => by have := hSm s hs; omega
  have hS1 : 0 < S.length := (List.getElem?_eq_some_iff.1 hSz).1
  have hco : cntOf (natI ms) xs = valC S c := by unfold cntOf; rw [e1, c1, hSe]
  (refine ret_of_den (E := en 142 [] (fun | 8 => [(2, 0), (6, 0), (7, 0), (8, 0), (9, 0), (1, 1)] | 21 => [(2, 0), (7, 0), (8, 0), (10, 0), (11, 0), (12, 0), (1, 1)] | 24 => [(2, 0), (7, 0), (8, 0), (10, 0), (11, 0), (12, 0), (13, 0), (1, 1)] | 28 => [(2, 0), (7, 0), (8, 0), (10, 0), (11, 0), (12, 0), (13, 0), (14, 0), (15, 0), (16, 0), (1, 1)] | _ => []) (fun _ => [])) tt_ok mixed Tryd.func13 rfl rfl rfl rfl ?_; refine ⟨by simp, ?_⟩)
  repeat' (first | ((first | refine opt_some (getC_rows rfl rfl (by omega)) ?_ | refine opt_some (by dsimp only; exact getC_lent rfl rfl (by omega)) ?_ | refine opt_some rfl ?_ | refine ⟨_, (by simp only [nf, nl, nm, en, ints, setC_setC, Nat.reduceAdd, Nat.reduceMul]; exact rfl), ?_⟩ | refine ⟨_, pickT rfl, ?_⟩ | refine ⟨_, rfl, ?_⟩ | refine iteP_true rfl ?_ | refine iteP_false rfl ?_ | refine iteP_true ‹_› ?_ | refine iteP_false ‹_› ?_ | refine andK ?_ | refine andA ?_ | refine andT ?_); conv => whnf) | (refine iteP_intro (fun hb => ?_) (fun hb => ?_) <;> (conv => whnf)))
  (refine ⟨_, hI, ?_⟩; conv => whnf)
  repeat' (first | ((first | refine opt_some (getC_rows rfl rfl (by omega)) ?_ | refine opt_some (by dsimp only; exact getC_lent rfl rfl (by omega)) ?_ | refine opt_some rfl ?_ | refine ⟨_, (by simp only [nf, nl, nm, en, ints, setC_setC, Nat.reduceAdd, Nat.reduceMul, hne]; exact rfl), ?_⟩ | refine ⟨_, pickT rfl, ?_⟩ | refine ⟨_, rfl, ?_⟩ | refine iteP_true rfl ?_ | refine iteP_false rfl ?_ | refine iteP_true ‹_› ?_ | refine iteP_false ‹_› ?_ | refine andK ?_ | refine andA ?_ | refine andT ?_); conv => whnf) | (refine iteP_intro (fun hb => ?_) (fun hb => ?_) <;> (conv => whnf)))
  refine ⟨fun k vs => ∃ a : Nat, a ≤ ms.length ∧ (∀ b < a, ∀ h : b < xs.length, 0 ≤ xs[b] ∧ xs[b] ≤ 24) ∧ 0 ≤ sumI (xs.take a) ∧ sumI (xs.take a) ≤ 24 ∧ vs = [.one (.ptr [i64 ms.length, .shd (ints (natI ms))]), .one (i64 (sumI (xs.take a))), .one (i64 ((wgt c a : Nat) : Int)), .one (ints (natI ((List.range a).map (wgt c)))), .one (i64 a), .one (.shd (ints xs))] ∧ k = ms.length - a, rfl, ⟨_, 0, by omega, fun b hb => by omega, Int.le_refl _, (by show (0 : Int) ≤ 24; decide), rfl, rfl⟩, ?_⟩
  rintro k vs ⟨a, ha, hrg, hs0, hs24, rfl, rfl⟩
  have hwl : ((List.range a).map (wgt c)).length = a := by rw [List.length_map, List.length_range]
  have hwn := natI_length ((List.range a).map (wgt c))
  have hg24 : ∀ b < a, c.getD b 0 ≤ 24 := fun b hb => by
    have h2 := hrg b hb (by omega)
    have h3 := hcx b (by omega) h2.1
    omega
  have hwa := wgt_le2 a hg24
  have hwa8 : wgt c a ≤ 25 ^ 8 := Nat.le_trans hwa (Nat.le_trans (Nat.pow_le_pow_right (by decide) ha) hp25)
  repeat (first | ((first | refine opt_some (getC_rows rfl rfl (by omega)) ?_ | refine opt_some (by dsimp only; exact getC_lent rfl rfl (by omega)) ?_ | refine opt_some rfl ?_ | refine ⟨_, (by simp only [nf, nl, nm, en, ints, setC_setC, Nat.reduceAdd, Nat.reduceMul]; exact rfl), ?_⟩ | refine ⟨_, pickT rfl, ?_⟩ | refine ⟨_, rfl, ?_⟩ | refine iteP_true rfl ?_ | refine iteP_false rfl ?_ | refine iteP_true ‹_› ?_ | refine iteP_false ‹_› ?_ | refine andK ?_ | refine andA ?_ | refine andT ?_); conv => whnf))
  refine iteP_intro (fun hb => ?_) (fun hb => ?_) <;> (conv => whnf)
  · have ha' : a < ms.length := by have := leT hb; omega
    have hax : a < xs.length := by omega
    have hIn := l01In_ret xs[a] 0 24
    have hst := sumI_take hax
    by_cases hr : 0 ≤ xs[a] ∧ xs[a] ≤ 24
    rotate_left
    · have hsc : scanC xs 0 = false := by
        cases hs : scanC xs 0 with
        | false => rfl
        | true => exact absurd (((scan_iff (by omega)).1 hs).1 _ (List.getElem_mem hax)) hr
      rw [coR_out h1 (by rw [hsc, Bool.and_false])]
      rw [decide_eq_false hr] at hIn
      repeat (first | ((first | refine opt_some (getC_rows rfl rfl (by omega)) ?_ | refine opt_some (by dsimp only; exact getC_lent rfl rfl (by omega)) ?_ | refine opt_some rfl ?_ | refine ⟨_, (by simp only [nf, nl, nm, en, ints, setC_setC, Nat.reduceAdd, Nat.reduceMul]; exact rfl), ?_⟩ | refine ⟨_, pickT rfl, ?_⟩ | refine ⟨_, rfl, ?_⟩ | refine iteP_true rfl ?_ | refine iteP_false rfl ?_ | refine iteP_true ‹_› ?_ | refine iteP_false ‹_› ?_ | refine andK ?_ | refine andA ?_ | refine andT ?_); conv => whnf))
      (refine ⟨_, hIn, ?_⟩; conv => whnf)
      repeat (first | ((first | refine opt_some (getC_rows rfl rfl (by omega)) ?_ | refine opt_some (by dsimp only; exact getC_lent rfl rfl (by omega)) ?_ | refine opt_some rfl ?_ | refine ⟨_, (by simp only [nf, nl, nm, en, ints, setC_setC, Nat.reduceAdd, Nat.reduceMul]; exact rfl), ?_⟩ | refine ⟨_, pickT rfl, ?_⟩ | refine ⟨_, rfl, ?_⟩ | refine iteP_true rfl ?_ | refine iteP_false rfl ?_ | refine iteP_true ‹_› ?_ | refine iteP_false ‹_› ?_ | refine andK ?_ | refine andA ?_ | refine andT ?_); conv => whnf))
      rfl
    rw [decide_eq_true hr] at hIn
    have e2 : IntKind.i64.wrap (sumI (xs.take a) + xs[a]) = sumI (xs.take (a + 1)) := by rw [hst]; exact wrap_i64 (by omega) (by omega)
    by_cases hgs : sumI (xs.take (a + 1)) > 24
    · have hsc : scanC xs 0 = false := by
        cases hs : scanC xs 0 with
        | false => rfl
        | true => have := scan_take hs (a + 1); omega
      have hgt : decide (sumI (xs.take (a + 1)) > 24) = true := decide_eq_true hgs
      rw [coR_out h1 (by rw [hsc, Bool.and_false])]
      repeat (first | ((first | refine opt_some (getC_rows rfl rfl (by omega)) ?_ | refine opt_some (by dsimp only; exact getC_lent rfl rfl (by omega)) ?_ | refine opt_some rfl ?_ | refine ⟨_, (by simp only [nf, nl, nm, en, ints, setC_setC, Nat.reduceAdd, Nat.reduceMul]; exact rfl), ?_⟩ | refine ⟨_, pickT rfl, ?_⟩ | refine ⟨_, rfl, ?_⟩ | refine iteP_true rfl ?_ | refine iteP_false rfl ?_ | refine iteP_true ‹_› ?_ | refine iteP_false ‹_› ?_ | refine andK ?_ | refine andA ?_ | refine andT ?_); conv => whnf))
      (refine ⟨_, hIn, ?_⟩; conv => whnf)
      repeat (first | ((first | refine opt_some (getC_rows rfl rfl (by omega)) ?_ | refine opt_some (by dsimp only; exact getC_lent rfl rfl (by omega)) ?_ | refine opt_some rfl ?_ | refine ⟨_, (by simp only [nf, nl, nm, en, ints, setC_setC, Nat.reduceAdd, Nat.reduceMul, e2, hgt]; exact rfl), ?_⟩ | refine ⟨_, pickT rfl, ?_⟩ | refine ⟨_, rfl, ?_⟩ | refine iteP_true rfl ?_ | refine iteP_false rfl ?_ | refine iteP_true ‹_› ?_ | refine iteP_false ‹_› ?_ | refine andK ?_ | refine andA ?_ | refine andT ?_); conv => whnf))
      rfl
    have hgt : decide (sumI (xs.take (a + 1)) > 24) = false := decide_eq_false hgs
    have hxa := hcx a hax hr.1
    have e3 : IntKind.i64.wrap (xs[a] + 1) = ((c.getD a 0 + 1 : Nat) : Int) := by rw [hxa, wrap_i64 (by omega) (by omega)]; omega
    have hws : wgt c (a + 1) = wgt c a * (c.getD a 0 + 1) := rfl
    have hwb : wgt c a * (c.getD a 0 + 1) ≤ 25 ^ 8 * 25 := Nat.mul_le_mul hwa8 (by omega)
    have e4 : IntKind.i64.wrap (((wgt c a : Nat) : Int) * ((c.getD a 0 + 1 : Nat) : Int)) = ((wgt c (a + 1) : Nat) : Int) := by
      rw [← Int.natCast_mul, ← hws]
      rw [← hws] at hwb
      exact wrap_i64 (by omega) (by omega)
    have hsn : ints (natI ((List.range (a + 1)).map (wgt c))) = .sl false 1 (a + 1) ((natI ((List.range a).map (wgt c))).map i64 ++ [i64 ((wgt c a : Nat) : Int)]) := by
      rw [List.range_succ, List.map_append, List.map_singleton, natI_snoc, ints_snoc, hwn, hwl]
    repeat (first | ((first | refine opt_some (getC_rows rfl rfl (by omega)) ?_ | refine opt_some (by dsimp only; exact getC_lent rfl rfl (by omega)) ?_ | refine opt_some rfl ?_ | refine ⟨_, (by simp only [nf, nl, nm, en, ints, setC_setC, Nat.reduceAdd, Nat.reduceMul]; exact rfl), ?_⟩ | refine ⟨_, pickT rfl, ?_⟩ | refine ⟨_, rfl, ?_⟩ | refine iteP_true rfl ?_ | refine iteP_false rfl ?_ | refine iteP_true ‹_› ?_ | refine iteP_false ‹_› ?_ | refine andK ?_ | refine andA ?_ | refine andT ?_); conv => whnf))
    (refine ⟨_, hIn, ?_⟩; conv => whnf)
    repeat (first | ((first | refine opt_some (getC_rows rfl rfl (by omega)) ?_ | refine opt_some (by dsimp only; exact getC_lent rfl rfl (by omega)) ?_ | refine opt_some rfl ?_ | refine ⟨_, (by simp only [nf, nl, nm, en, ints, setC_setC, Nat.reduceAdd, Nat.reduceMul, e2, hgt, e3, e4]; exact rfl), ?_⟩ | refine ⟨_, pickT rfl, ?_⟩ | refine ⟨_, rfl, ?_⟩ | refine iteP_true rfl ?_ | refine iteP_false rfl ?_ | refine iteP_true ‹_› ?_ | refine iteP_false ‹_› ?_ | refine andK ?_ | refine andA ?_ | refine andT ?_); conv => whnf))
    refine ⟨_, ?_, a + 1, ha', fun b hb h => ?_, by omega, by omega, ?_, rfl⟩
    · omega
    · by_cases e : b = a
      · subst e; exact hr
      · exact hrg b (by omega) h
    · rw [wrap_succ (by omega), hsn, hwn, hwl]
      rfl
  have hae : a = ms.length := by have := leF hb; omega
  subst hae
  have hsc : scanC xs 0 = true := (scan_iff (by omega)).2 ⟨fun x hx => by
    obtain ⟨b, hb, rfl⟩ := List.getElem_of_mem hx
    exact hrg b (by omega) hb, by rw [← hxl, List.take_length] at hs24; omega⟩
  have hsn := scan_nat hsc
  obtain ⟨c', c1', hxc, c3, -⟩ := hsn
  rw [c1] at c1'
  subst c1'
  have hci := natI_length c
  rw [coR_in h1 (by rw [decide_eq_true hln, hsc]; rfl), hco]
  have hW0 : ∃ W, wgt c ms.length = W := ⟨_, rfl⟩
  obtain ⟨W, hW⟩ := hW0
  have hWc : wgt c c.length = W := by rw [hcl]; exact hW
  rw [hW] at hwa8
  have hWp : 0 < W := by rw [← hW]; exact wgt_pos _ _
  have hz : List.replicate W (Cell.c (.int .i64 0)) = (arrC S c 0 0).map i64 := by rw [arrC_zero, List.map_replicate, hWc]
  have hv0 : valC S (digL c 0) = 1 := valC_one (digL_zero c)
  have hal : ∀ m x, (arrC S c m x).length = W := fun m x => by rw [arrC_len, hWc]
  have hml : ∀ m x, ((arrC S c m x).map i64).length = W := fun m x => by rw [List.length_map, hal]
  have hsp0 : splice ((arrC S c 0 0).map i64) (Int.toNat 0 * 1) [Cell.c (.int .i64 1)] = (arrC S c 1 0).map i64 := by
    rw [← arrC_next S c 0, ← arrC_set S c 0 (valC S (digL c 0)), hv0]
    exact splice_at (i := 0) rfl (by rw [hal]; exact hWp)
  have hm00 := hml 0 0
  rw [hW]
  repeat (first | ((first | refine opt_some (getC_rows rfl rfl (by omega)) ?_ | refine opt_some (by dsimp only; exact getC_lent rfl rfl (by omega)) ?_ | refine opt_some rfl ?_ | refine ⟨_, (by simp only [nf, nl, nm, en, ints, setC_setC, Nat.reduceAdd, Nat.reduceMul]; exact rfl), ?_⟩ | refine ⟨_, pickT rfl, ?_⟩ | refine ⟨_, rfl, ?_⟩ | refine iteP_true rfl ?_ | refine iteP_false rfl ?_ | refine iteP_true ‹_› ?_ | refine iteP_false ‹_› ?_ | refine andK ?_ | refine andA ?_ | refine andT ?_); conv => whnf))
  (refine ⟨_, hS2, ?_⟩; conv => whnf)
  repeat (first | ((first | refine opt_some (getC_rows rfl rfl (by omega)) ?_ | refine opt_some (by dsimp only; exact getC_lent rfl rfl (by omega)) ?_ | refine opt_some rfl ?_ | refine ⟨_, (by simp only [nf, nl, nm, en, ints, setC_setC, Nat.reduceAdd, Nat.reduceMul, Int.toNat_natCast]; exact rfl), ?_⟩ | refine ⟨_, pickT rfl, ?_⟩ | refine ⟨_, rfl, ?_⟩ | refine iteP_true rfl ?_ | refine iteP_false rfl ?_ | refine iteP_true ‹_› ?_ | refine iteP_false ‹_› ?_ | refine andK ?_ | refine andA ?_ | refine andT ?_); conv => whnf))
  rw [hz]
  refine ⟨⟨by dsimp only; omega, plain_i64 _⟩, ?_⟩
  conv => whnf
  repeat (first | ((first | refine opt_some (getC_rows rfl rfl (by omega)) ?_ | refine opt_some (by dsimp only; exact getC_lent rfl rfl (by omega)) ?_ | refine opt_some rfl ?_ | refine ⟨_, (by simp only [nf, nl, nm, en, ints, setC_setC, Nat.reduceAdd, Nat.reduceMul, hsp0]; exact rfl), ?_⟩ | refine ⟨_, pickT rfl, ?_⟩ | refine ⟨_, rfl, ?_⟩ | refine iteP_true rfl ?_ | refine iteP_false rfl ?_ | refine iteP_true ‹_› ?_ | refine iteP_false ‹_› ?_ | refine andK ?_ | refine andA ?_ | refine andT ?_); conv => whnf))
  refine ⟨fun k vs => ∃ m : Nat, 1 ≤ m ∧ m ≤ W ∧ vs = [.one (.ptr [i64 ms.length, .shd (ints (natI ms))]), .one (i64 W), .one (ints (natI ((List.range ms.length).map (wgt c)))), .one (ints (natI S)), .one (.sl false 1 W ((arrC S c (m) (0)).map i64)), .one (i64 m), .one (.shd (ints xs))] ∧ k = W - m, rfl, ⟨_, 1, by omega, hWp, rfl, rfl⟩, ?_⟩
  rintro k vs ⟨m, hm1, hm, rfl, rfl⟩
  have hm0 := hml m 0
  have ha0 := hal m 0
  repeat (first | ((first | refine opt_some (getC_rows rfl rfl (by omega)) ?_ | refine opt_some (by dsimp only; exact getC_lent rfl rfl (by omega)) ?_ | refine opt_some rfl ?_ | refine ⟨_, (by simp only [nf, nl, nm, en, ints, setC_setC, Nat.reduceAdd, Nat.reduceMul]; exact rfl), ?_⟩ | refine ⟨_, pickT rfl, ?_⟩ | refine ⟨_, rfl, ?_⟩ | refine iteP_true rfl ?_ | refine iteP_false rfl ?_ | refine iteP_true ‹_› ?_ | refine iteP_false ‹_› ?_ | refine andK ?_ | refine andA ?_ | refine andT ?_); conv => whnf))
  refine iteP_intro (fun hb => ?_) (fun hb => ?_) <;> (conv => whnf)
  rotate_left
  · have hme : m = W := by have := leF hb; omega
    subst hme
    have e9 : IntKind.i64.wrap ((m : Int) - 1) = ((m - 1 : Nat) : Int) := by rw [wrap_i64 (by omega) (by omega)]; omega
    have hg9 : (arrC S c m 0)[m - 1]'(by omega) = valC S c := by
      rw [arrC_get, if_pos (by omega)]
      have := digL_last (c := c)
      rw [hWc] at this
      rw [this]
    repeat (first | ((first | refine opt_some (getC_rows rfl rfl (by omega)) ?_ | refine opt_some (by dsimp only; exact getC_lent rfl rfl (by omega)) ?_ | refine opt_some rfl ?_ | refine ⟨_, (by simp only [nf, nl, nm, en, ints, setC_setC, Nat.reduceAdd, Nat.reduceMul, e9, hg9]; exact rfl), ?_⟩ | refine ⟨_, pickT rfl, ?_⟩ | refine ⟨_, rfl, ?_⟩ | refine iteP_true rfl ?_ | refine iteP_false rfl ?_ | refine iteP_true ‹_› ?_ | refine iteP_false ‹_› ?_ | refine andK ?_ | refine andA ?_ | refine andT ?_); conv => whnf))
    refine iteP_intro (fun hb => ?_) (fun hb => ?_) <;> (conv => whnf)
    · rw [if_pos (leT hb)]
      repeat' (first | ((first | refine opt_some (getC_rows rfl rfl (by omega)) ?_ | refine opt_some (by dsimp only; exact getC_lent rfl rfl (by omega)) ?_ | refine opt_some rfl ?_ | refine ⟨_, (by simp only [nf, nl, nm, en, ints, setC_setC, Nat.reduceAdd, Nat.reduceMul]; exact rfl), ?_⟩ | refine ⟨_, pickT rfl, ?_⟩ | refine ⟨_, rfl, ?_⟩ | refine iteP_true rfl ?_ | refine iteP_false rfl ?_ | refine iteP_true ‹_› ?_ | refine iteP_false ‹_› ?_ | refine andK ?_ | refine andA ?_ | refine andT ?_); conv => whnf) | (refine iteP_intro (fun hb => ?_) (fun hb => ?_) <;> (conv => whnf)))
      rfl
    · rw [if_neg (leF hb)]
      repeat' (first | ((first | refine opt_some (getC_rows rfl rfl (by omega)) ?_ | refine opt_some (by dsimp only; exact getC_lent rfl rfl (by omega)) ?_ | refine opt_some rfl ?_ | refine ⟨_, (by simp only [nf, nl, nm, en, ints, setC_setC, Nat.reduceAdd, Nat.reduceMul, e9, hg9]; exact rfl), ?_⟩ | refine ⟨_, pickT rfl, ?_⟩ | refine ⟨_, rfl, ?_⟩ | refine iteP_true rfl ?_ | refine iteP_false rfl ?_ | refine iteP_true ‹_› ?_ | refine iteP_false ‹_› ?_ | refine andK ?_ | refine andA ?_ | refine andT ?_); conv => whnf) | (refine iteP_intro (fun hb => ?_) (fun hb => ?_) <;> (conv => whnf)))
      rfl
  have hm' : m < W := by have := leT hb; omega
  have hmc : m < wgt c c.length := by omega
  repeat (first | ((first | refine opt_some (getC_rows rfl rfl (by omega)) ?_ | refine opt_some (by dsimp only; exact getC_lent rfl rfl (by omega)) ?_ | refine opt_some rfl ?_ | refine ⟨_, (by simp only [nf, nl, nm, en, ints, setC_setC, Nat.reduceAdd, Nat.reduceMul]; exact rfl), ?_⟩ | refine ⟨_, pickT rfl, ?_⟩ | refine ⟨_, rfl, ?_⟩ | refine iteP_true rfl ?_ | refine iteP_false rfl ?_ | refine iteP_true ‹_› ?_ | refine iteP_false ‹_› ?_ | refine andK ?_ | refine andA ?_ | refine andT ?_); conv => whnf))
  refine ⟨fun k vs => ∃ i : Nat, 1 ≤ i ∧ i ≤ S.length ∧ vs = [.one (.ptr [i64 ms.length, .shd (ints (natI ms))]), .one (i64 W), .one (ints (natI ((List.range ms.length).map (wgt c)))), .one (ints (natI S)), .one (.sl false 1 W ((arrC S c (m) (accC S (digL c m) i)).map i64)), .one (i64 m), .one (i64 i), .one (.shd (ints xs))] ∧ k = S.length - i, rfl, ⟨_, 1, by omega, hS1, by rw [accC_one hSz]; rfl, rfl⟩, ?_⟩
  rintro k vs ⟨i, hi1, hi, rfl, rfl⟩
  have hA0 : ∃ A, accC S (digL c m) i = A := ⟨_, rfl⟩
  obtain ⟨A, hAe⟩ := hA0
  rw [hAe]
  have hmA := hml m A
  have haA := hal m A
  repeat (first | ((first | refine opt_some (getC_rows rfl rfl (by omega)) ?_ | refine opt_some (by dsimp only; exact getC_lent rfl rfl (by omega)) ?_ | refine opt_some rfl ?_ | refine ⟨_, (by simp only [nf, nl, nm, en, ints, setC_setC, Nat.reduceAdd, Nat.reduceMul]; exact rfl), ?_⟩ | refine ⟨_, pickT rfl, ?_⟩ | refine ⟨_, rfl, ?_⟩ | refine iteP_true rfl ?_ | refine iteP_false rfl ?_ | refine iteP_true ‹_› ?_ | refine iteP_false ‹_› ?_ | refine andK ?_ | refine andA ?_ | refine andT ?_); conv => whnf))
  refine iteP_intro (fun hb => ?_) (fun hb => ?_) <;> (conv => whnf)
  rotate_left
  · have hie : i = S.length := by have := leF hb; omega
    repeat (first | ((first | refine opt_some (getC_rows rfl rfl (by omega)) ?_ | refine opt_some (by dsimp only; exact getC_lent rfl rfl (by omega)) ?_ | refine opt_some rfl ?_ | refine ⟨_, (by simp only [nf, nl, nm, en, ints, setC_setC, Nat.reduceAdd, Nat.reduceMul]; exact rfl), ?_⟩ | refine ⟨_, pickT rfl, ?_⟩ | refine ⟨_, rfl, ?_⟩ | refine iteP_true rfl ?_ | refine iteP_false rfl ?_ | refine iteP_true ‹_› ?_ | refine iteP_false ‹_› ?_ | refine andK ?_ | refine andA ?_ | refine andT ?_); conv => whnf))
    refine ⟨_, ?_, m + 1, by omega, hm', ?_, rfl⟩
    · omega
    · rw [wrap_succ (by omega), ← arrC_next S c m, valC_rec hS63 (thr_pos hmc (by omega)), ← hie, hAe]
      rfl
  have hi' : i < S.length := by have := leT hb; omega
  have hs0 : ∃ s, S[i] = s := ⟨_, rfl⟩
  obtain ⟨s, hse⟩ := hs0
  have hgs : (natI S)[i]'(by omega) = (s : Int) := by rw [natI_get, hse]
  have hsn0 : s ≠ 0 := by rw [← hse]; exact hSp i hi' (by omega)
  have hss : s < 2 ^ ms.length := hSm s (by rw [← hse]; exact List.getElem_mem hi')
  have hs256 : s < 256 := Nat.lt_of_lt_of_le hss hp8
  have hacc := accC_succ (c := digL c m) hi' hse
  rw [hAe, useC_ok hsn0 (by rw [hcl]; exact hss) (by omega), hcl, Int.mul_comm] at hacc
  repeat (first | ((first | refine opt_some (getC_rows rfl rfl (by omega)) ?_ | refine opt_some (by dsimp only; exact getC_lent rfl rfl (by omega)) ?_ | refine opt_some rfl ?_ | refine ⟨_, (by simp only [nf, nl, nm, en, ints, setC_setC, Nat.reduceAdd, Nat.reduceMul]; exact rfl), ?_⟩ | refine ⟨_, pickT rfl, ?_⟩ | refine ⟨_, rfl, ?_⟩ | refine iteP_true rfl ?_ | refine iteP_false rfl ?_ | refine iteP_true ‹_› ?_ | refine iteP_false ‹_› ?_ | refine andK ?_ | refine andA ?_ | refine andT ?_); conv => whnf))
  refine ⟨fun k vs => ∃ (a : Nat) (q : Bool), a ≤ ms.length ∧ okA c s m a = q ∧ vs = [.one (.ptr [i64 ms.length, .shd (ints (natI ms))]), .one (i64 W), .one (ints (natI ((List.range ms.length).map (wgt c)))), .one (ints (natI S)), .one (.sl false 1 W ((arrC S c (m) (A)).map i64)), .one (i64 m), .one (i64 i), .one (i64 ((m : Int) - ((dropW c s a : Nat) : Int))), .one (.c (.bool q)), .one (i64 a), .one (.shd (ints xs))] ∧ k = ms.length - a, rfl, ⟨_, 0, true, by omega, rfl, by rw [show (m : Int) - ((dropW c s 0 : Nat) : Int) = m from Int.sub_zero _]; rfl, rfl⟩, ?_⟩
  rintro k vs ⟨a, q, ha, hq, rfl, rfl⟩
  have hdl := dropW_le (c := c) s (n := ms.length) a ha
  rw [hW] at hdl
  have hdl8 : a * W ≤ 8 * 25 ^ 8 := Nat.mul_le_mul (by omega) hwa8
  repeat (first | ((first | refine opt_some (getC_rows rfl rfl (by omega)) ?_ | refine opt_some (by dsimp only; exact getC_lent rfl rfl (by omega)) ?_ | refine opt_some rfl ?_ | refine ⟨_, (by simp only [nf, nl, nm, en, ints, setC_setC, Nat.reduceAdd, Nat.reduceMul]; exact rfl), ?_⟩ | refine ⟨_, pickT rfl, ?_⟩ | refine ⟨_, rfl, ?_⟩ | refine iteP_true rfl ?_ | refine iteP_false rfl ?_ | refine iteP_true ‹_› ?_ | refine iteP_false ‹_› ?_ | refine andK ?_ | refine andA ?_ | refine andT ?_); conv => whnf))
  refine iteP_intro (fun hb => ?_) (fun hb => ?_) <;> (conv => whnf)
  rotate_left
  · have hae : a = ms.length := by have := leF hb; omega
    rw [hae] at hq ⊢
    rw [hq] at hacc
    rcases Bool.eq_false_or_eq_true q with hqq | hqq
    · rw [hqq] at hq hacc ⊢
      rw [if_pos rfl] at hacc
      have hl2 := less_digits hmc (by rw [hcl]; exact hq)
      have hdp := dropW_pos hsn0 (by rw [hcl]; exact hss)
      rw [hcl] at hl2 hdp
      have hl3 := hl2.1
      have hB0 : ∃ B, m - dropW c s ms.length = B := ⟨_, rfl⟩
      obtain ⟨B, hB⟩ := hB0
      have hBm : B < m := by omega
      have hgB : (arrC S c m A)[B]'(by omega) = valC S (lessC s (digL c m)) := by rw [arrC_get, if_pos hBm, ← hB, hl2.2]
      have hgm : (arrC S c m A)[m]'(by omega) = A := by rw [arrC_get, if_neg (Nat.lt_irrefl _), if_pos rfl]
      rw [show (m : Int) - ((dropW c s ms.length : Nat) : Int) = ((B : Nat) : Int) by omega]
      have hP := l01Bits_ret s hs256
      have hV0 : ∃ V, valC S (lessC s (digL c m)) = V := ⟨_, rfl⟩
      obtain ⟨V, hV⟩ := hV0
      rw [hV] at hgB hacc
      have q1 : ((popR 8 s : Nat) : Int).tmod 2 = ((popR 8 s % 2 : Nat) : Int) := rfl
      have q2 : IntKind.i64.wrap (2 * ((popR 8 s % 2 : Nat) : Int)) = 2 * ((popR 8 s % 2 : Nat) : Int) := wrap_i64 (by omega) (by omega)
      have q3 : IntKind.i64.wrap (2 * ((popR 8 s % 2 : Nat) : Int) - 1) = sgC s := wrap_i64 (by omega) (by omega)
      have hsp : splice ((arrC S c m A).map i64) (Int.toNat (m : Int) * 1) [Cell.c (.int .i64 (IntKind.i64.wrap (A + IntKind.i64.wrap (V * sgC s))))] = (arrC S c m (accC S (digL c m) (i + 1))).map i64 := by
        rw [hacc, ← arrC_set S c (m := m) A (IntKind.i64.wrap (A + IntKind.i64.wrap (V * sgC s)))]
        exact splice_at rfl (by omega)
      repeat (first | ((first | refine opt_some (getC_rows rfl rfl (by omega)) ?_ | refine opt_some (by dsimp only; exact getC_lent rfl rfl (by omega)) ?_ | refine opt_some rfl ?_ | refine ⟨_, (by simp only [nf, nl, nm, en, ints, setC_setC, Nat.reduceAdd, Nat.reduceMul, hgm, hgB, hgs]; exact rfl), ?_⟩ | refine ⟨_, pickT rfl, ?_⟩ | refine ⟨_, rfl, ?_⟩ | refine iteP_true rfl ?_ | refine iteP_false rfl ?_ | refine iteP_true ‹_› ?_ | refine iteP_false ‹_› ?_ | refine andK ?_ | refine andA ?_ | refine andT ?_); conv => whnf))
      (refine ⟨_, hP, ?_⟩; conv => whnf)
      repeat (first | ((first | refine opt_some (getC_rows rfl rfl (by omega)) ?_ | refine opt_some (by dsimp only; exact getC_lent rfl rfl (by omega)) ?_ | refine opt_some rfl ?_ | refine ⟨_, (by simp only [nf, nl, nm, en, ints, setC_setC, Nat.reduceAdd, Nat.reduceMul, q1, q2, q3]; exact rfl), ?_⟩ | refine ⟨_, pickT rfl, ?_⟩ | refine ⟨_, rfl, ?_⟩ | refine iteP_true rfl ?_ | refine iteP_false rfl ?_ | refine iteP_true ‹_› ?_ | refine iteP_false ‹_› ?_ | refine andK ?_ | refine andA ?_ | refine andT ?_); conv => whnf))
      refine ⟨⟨by dsimp only; omega, plain_i64 _⟩, ?_⟩
      conv => whnf
      repeat (first | ((first | refine opt_some (getC_rows rfl rfl (by omega)) ?_ | refine opt_some (by dsimp only; exact getC_lent rfl rfl (by omega)) ?_ | refine opt_some rfl ?_ | refine ⟨_, (by simp only [nf, nl, nm, en, ints, setC_setC, Nat.reduceAdd, Nat.reduceMul, hsp]; exact rfl), ?_⟩ | refine ⟨_, pickT rfl, ?_⟩ | refine ⟨_, rfl, ?_⟩ | refine iteP_true rfl ?_ | refine iteP_false rfl ?_ | refine iteP_true ‹_› ?_ | refine iteP_false ‹_› ?_ | refine andK ?_ | refine andA ?_ | refine andT ?_); conv => whnf))
      refine ⟨_, ?_, i + 1, by omega, hi', ?_, rfl⟩
      · omega
      · rw [wrap_succ (by omega)]
        rfl
    · rw [hqq] at hq hacc ⊢
      rw [if_neg (by simp)] at hacc
      repeat (first | ((first | refine opt_some (getC_rows rfl rfl (by omega)) ?_ | refine opt_some (by dsimp only; exact getC_lent rfl rfl (by omega)) ?_ | refine opt_some rfl ?_ | refine ⟨_, (by simp only [nf, nl, nm, en, ints, setC_setC, Nat.reduceAdd, Nat.reduceMul]; exact rfl), ?_⟩ | refine ⟨_, pickT rfl, ?_⟩ | refine ⟨_, rfl, ?_⟩ | refine iteP_true rfl ?_ | refine iteP_false rfl ?_ | refine iteP_true ‹_› ?_ | refine iteP_false ‹_› ?_ | refine andK ?_ | refine andA ?_ | refine andT ?_); conv => whnf))
      refine ⟨_, ?_, i + 1, by omega, hi', ?_, rfl⟩
      · omega
      · rw [wrap_succ (by omega), hacc]
        rfl
  have ha' : a < ms.length := by have := leT hb; omega
  have hax : a < xs.length := by omega
  have hB := l01Bit_ret s a (by omega) (by omega)
  have hgw : (natI ((List.range ms.length).map (wgt c)))[a]'(by rw [natI_length, hwl]; exact ha') = ((wgt c a : Nat) : Int) := by
    rw [natI_get]
    simp
  have hwp := wgt_pos c a
  have hwaW : wgt c a ≤ W := by rw [← hW]; exact wgt_mono c ha
  have hok := okA_succ c s m a
  have hdr := dropW_succ c s a
  rw [hq] at hok
  rcases Bool.eq_false_or_eq_true (s.testBit a) with hbt | hbt
  rotate_left
  · rw [hbt] at hB hok hdr
    rw [if_neg (by simp), Nat.add_zero] at hdr
    rw [Bool.not_false, Bool.true_or, Bool.and_true] at hok
    repeat (first | ((first | refine opt_some (getC_rows rfl rfl (by omega)) ?_ | refine opt_some (by dsimp only; exact getC_lent rfl rfl (by omega)) ?_ | refine opt_some rfl ?_ | refine ⟨_, (by simp only [nf, nl, nm, en, ints, setC_setC, Nat.reduceAdd, Nat.reduceMul, hgs]; exact rfl), ?_⟩ | refine ⟨_, pickT rfl, ?_⟩ | refine ⟨_, rfl, ?_⟩ | refine iteP_true rfl ?_ | refine iteP_false rfl ?_ | refine iteP_true ‹_› ?_ | refine iteP_false ‹_› ?_ | refine andK ?_ | refine andA ?_ | refine andT ?_); conv => whnf))
    (refine ⟨_, hB, ?_⟩; conv => whnf)
    repeat (first | ((first | refine opt_some (getC_rows rfl rfl (by omega)) ?_ | refine opt_some (by dsimp only; exact getC_lent rfl rfl (by omega)) ?_ | refine opt_some rfl ?_ | refine ⟨_, (by simp only [nf, nl, nm, en, ints, setC_setC, Nat.reduceAdd, Nat.reduceMul]; exact rfl), ?_⟩ | refine ⟨_, pickT rfl, ?_⟩ | refine ⟨_, rfl, ?_⟩ | refine iteP_true rfl ?_ | refine iteP_false rfl ?_ | refine iteP_true ‹_› ?_ | refine iteP_false ‹_› ?_ | refine andK ?_ | refine andA ?_ | refine andT ?_); conv => whnf))
    refine ⟨_, ?_, a + 1, q, ha', hok, ?_, rfl⟩
    · omega
    · rw [wrap_succ (by omega), hdr]
      rfl
  rw [hbt] at hB hok hdr
  rw [if_pos rfl] at hdr
  rw [Bool.not_true, Bool.false_or] at hok
  have e5 : IntKind.i64.wrap ((m : Int) - ((dropW c s a : Nat) : Int) - ((wgt c a : Nat) : Int)) = (m : Int) - ((dropW c s (a + 1) : Nat) : Int) := by
    rw [hdr, wrap_i64 (by omega) (by omega)]
    omega
  have hxa := hcx a hax (hrg a ha' hax).1
  have hx24 := hg24 a ha'
  have e3 : IntKind.i64.wrap (xs[a] + 1) = ((c.getD a 0 + 1 : Nat) : Int) := by rw [hxa, wrap_i64 (by omega) (by omega)]; omega
  have h2 : IntKind.i64.wrap ((m : Int).tdiv ((wgt c a : Nat) : Int)) = ((m / wgt c a : Nat) : Int) := by
    rw [show (m : Int).tdiv ((wgt c a : Nat) : Int) = ((m / wgt c a : Nat) : Int) from rfl]
    have := Nat.div_le_self m (wgt c a)
    exact wrap_nat (by omega)
  have h3 : ((m / wgt c a : Nat) : Int).tmod ((c.getD a 0 + 1 : Nat) : Int) = ((digit c m a : Nat) : Int) := rfl
  have h4 : decide (((digit c m a : Nat) : Int) > 0) = decide (0 < digit c m a) := by rw [decide_eq_decide]; omega
  rcases Bool.eq_false_or_eq_true q with hqq | hqq
  · rw [hqq] at hok ⊢
    rw [Bool.true_and] at hok
    repeat (first | ((first | refine opt_some (getC_rows rfl rfl (by omega)) ?_ | refine opt_some (by dsimp only; exact getC_lent rfl rfl (by omega)) ?_ | refine opt_some rfl ?_ | refine ⟨_, (by simp only [nf, nl, nm, en, ints, setC_setC, Nat.reduceAdd, Nat.reduceMul, hgs]; exact rfl), ?_⟩ | refine ⟨_, pickT rfl, ?_⟩ | refine ⟨_, rfl, ?_⟩ | refine iteP_true rfl ?_ | refine iteP_false rfl ?_ | refine iteP_true ‹_› ?_ | refine iteP_false ‹_› ?_ | refine andK ?_ | refine andA ?_ | refine andT ?_); conv => whnf))
    (refine ⟨_, hB, ?_⟩; conv => whnf)
    repeat (first | ((first | refine opt_some (getC_rows rfl rfl (by omega)) ?_ | refine opt_some (by dsimp only; exact getC_lent rfl rfl (by omega)) ?_ | refine opt_some rfl ?_ | refine ⟨_, (by simp only [nf, nl, nm, en, ints, setC_setC, Nat.reduceAdd, Nat.reduceMul, hgw, e3, h2, h3, h4, e5]; exact rfl), ?_⟩ | refine ⟨_, pickT rfl, ?_⟩ | refine ⟨_, rfl, ?_⟩ | refine iteP_true rfl ?_ | refine iteP_false rfl ?_ | refine iteP_true ‹_› ?_ | refine iteP_false ‹_› ?_ | refine andK ?_ | refine andA ?_ | refine andT ?_); conv => whnf))
    refine ⟨_, ?_, a + 1, decide (0 < digit c m a), ha', hok, ?_, rfl⟩
    · omega
    · rw [wrap_succ (by omega)]
      rfl
  · rw [hqq] at hok ⊢
    rw [Bool.false_and] at hok
    repeat (first | ((first | refine opt_some (getC_rows rfl rfl (by omega)) ?_ | refine opt_some (by dsimp only; exact getC_lent rfl rfl (by omega)) ?_ | refine opt_some rfl ?_ | refine ⟨_, (by simp only [nf, nl, nm, en, ints, setC_setC, Nat.reduceAdd, Nat.reduceMul, hgs]; exact rfl), ?_⟩ | refine ⟨_, pickT rfl, ?_⟩ | refine ⟨_, rfl, ?_⟩ | refine iteP_true rfl ?_ | refine iteP_false rfl ?_ | refine iteP_true ‹_› ?_ | refine iteP_false ‹_› ?_ | refine andK ?_ | refine andA ?_ | refine andT ?_); conv => whnf))
    (refine ⟨_, hB, ?_⟩; conv => whnf)
    repeat (first | ((first | refine opt_some (getC_rows rfl rfl (by omega)) ?_ | refine opt_some (by dsimp only; exact getC_lent rfl rfl (by omega)) ?_ | refine opt_some rfl ?_ | refine ⟨_, (by simp only [nf, nl, nm, en, ints, setC_setC, Nat.reduceAdd, Nat.reduceMul, hgw, e5]; exact rfl), ?_⟩ | refine ⟨_, pickT rfl, ?_⟩ | refine ⟨_, rfl, ?_⟩ | refine iteP_true rfl ?_ | refine iteP_false rfl ?_ | refine iteP_true ‹_› ?_ | refine iteP_false ‹_› ?_ | refine andK ?_ | refine andA ?_ | refine andT ?_); conv => whnf))
    refine ⟨_, ?_, a + 1, false, ha', hok, ?_, rfl⟩
    · omega
    · rw [wrap_succ (by omega)]
      rfl
end Go.Proofs.YtihdeagknggeiaaDoor
