import Derived.Test.YtihdeagknggeiaaDoorFzc
set_option autoImplicit false
set_option linter.unusedSimpArgs false
set_option linter.unusedVariables false
namespace Go.Proofs.YtihdeagknggeiaaDoor
open Go.Den
theorem sumP_succ (p : Nat → Int) (T : Nat → Nat) (k j : Nat) : sumP p T k (j + 1) = sumP p T k j + p (j + 1) * (T (k - (j + 1)) : Int) := rfl
theorem sgn_one (k : Nat) : sgn k = 1 ∨ sgn k = -1 := by
  rw [sgn_mod]
  rcases Nat.mod_two_eq_zero_or_one k with h | h <;> rw [h] <;> simp
theorem prod_le {x c t b : Int} (h : x = 1 ∨ x = -1) (hc : 0 ≤ c) (hc2 : c ≤ 256) (ht : 0 ≤ t) (hb : t ≤ b) : -(256 * b) ≤ x * c * t ∧ x * c * t ≤ 256 * b := by
  have h0 : 0 ≤ c * t := Int.mul_nonneg hc ht
  have h1 : c * t ≤ 256 * b := Int.mul_le_mul hc2 hb ht (by omega)
  rcases h with rfl | rfl
  · rw [Int.one_mul]; omega
  · rw [Int.neg_mul, Int.one_mul, Int.neg_mul]; omega
set_option maxHeartbeats 16000000 in
set_option maxRecDepth 100000 in
theorem inverse_ret (ms : List Nat) (hA : Alpha ms) (hl : ms.length ≤ 8) (n : Nat) (hn : n ≤ 24) : Ret Tryd.prog G0 72 [⟨.ro, .one (ints (polyL (stepL (dep ms) ms.length)))⟩, ⟨.ro, .one (i64 n)⟩] ⟨.tup [(false, [if 1000000000000000 < trc ms.length (dep ms) n then nilS else ints (natI ((List.range (n + 1)).map (trc ms.length (dep ms))))]), (false, [i64 (if 1000000000000000 < trc ms.length (dep ms) n then 3 else 0)])], []⟩ := by
  have hp8 : 2 ^ ms.length ≤ 2 ^ 8 := Nat.pow_le_pow_right (by decide) hl
  have hSl := stepL_len (dep ms) ms.length
  have hm9 : mxP (stepL (dep ms) ms.length) ≤ 9 := mxP_le _ 0 (fun m hm => by have := popR_le 8 m; omega) (by omega)
  have hsum := fun k hk j hj => trc_sum (n := ms.length) (D := dep ms) hA.sym hl (k := k) hk (j := j) hj
  have hck := cntK_le (stepL (dep ms) ms.length)
  have hPl : (polyL (stepL (dep ms) ms.length)).length = mxP (stepL (dep ms) ms.length) := polyX_len _ _
  have hPg : ∀ i (h : i < (polyL (stepL (dep ms) ms.length)).length), (polyL (stepL (dep ms) ms.length))[i] = sgn i * (cntK (stepL (dep ms) ms.length) i : Int) := fun i h => by simp [polyL, polyX]
  have hLe := length_ret (polyL (stepL (dep ms) ms.length))
  have htr : ∃ T, trc ms.length (dep ms) = T := ⟨_, rfl⟩
  generalize hSS : stepL (dep ms) ms.length = S at hSl hm9 hsum hck hPl hPg hLe ⊢
  generalize hPP : polyL S = P at hPl hPg hLe ⊢
  have trc_big : ∀ {a b : Nat}, a ≤ b → 1000000000000000 < trc ms.length (dep ms) a → 1000000000000000 < trc ms.length (dep ms) b := fun h hb => trc_big h hb
  have hT0 : trc ms.length (dep ms) 0 = 1 := rfl
  generalize trc ms.length (dep ms) = T at hsum trc_big hT0 ⊢
  (refine ret_of_den (E := en 81 [] (fun | 3 => [(1, 0), (6, 0), (7, 0), (0, 1)] | 7 => [(1, 0), (6, 0), (7, 0), (8, 0), (9, 0), (10, 0), (0, 1)] | _ => []) (fun _ => [])) tt_ok mixed Tryd.func72 rfl rfl rfl rfl ?_; refine ⟨by simp, ?_⟩)
  repeat' (first | ((first | refine opt_some (getC_rows rfl rfl (by omega)) ?_ | refine opt_some (by dsimp only; exact getC_lent rfl rfl (by omega)) ?_ | refine opt_some rfl ?_ | refine ⟨_, (by simp only [nf, nl, nm, en, ints, setC_setC, Nat.reduceAdd, Nat.reduceMul]; exact rfl), ?_⟩ | refine ⟨_, pickT rfl, ?_⟩ | refine ⟨_, rfl, ?_⟩ | refine iteP_true rfl ?_ | refine iteP_false rfl ?_ | refine iteP_true ‹_› ?_ | refine iteP_false ‹_› ?_ | refine andK ?_ | refine andA ?_ | refine andT ?_); conv => whnf) | (refine iteP_intro (fun hb => ?_) (fun hb => ?_) <;> (conv => whnf)))
  refine ⟨fun m vs => ∃ k : Nat, 1 ≤ k ∧ k ≤ n + 1 ∧ (∀ i < k, T i ≤ 1000000000000000) ∧ vs = [.one (i64 n), .one (ints (natI ((List.range k).map T))), .one (i64 k), .one (.shd (ints P))] ∧ m = n + 1 - k, rfl, ⟨_, 1, Nat.le_refl _, by omega, fun i hi => ?_, ?_, rfl⟩, ?_⟩
  · obtain rfl : i = 0 := by omega
    rw [hT0]
    decide
  · rw [show (List.range 1).map T = [T 0] from rfl, hT0]
    rfl
  rintro m vs ⟨k, hk1, hk, hT, rfl, rfl⟩
  have hOl : (natI ((List.range k).map T)).length = k := by rw [natI_length, List.length_map, List.length_range]
  have hOg : ∀ i (h : i < (natI ((List.range k).map T)).length), (natI ((List.range k).map T))[i] = ((T i : Nat) : Int) := fun i h => by simp [natI]
  repeat (first | ((first | refine opt_some (getC_rows rfl rfl (by omega)) ?_ | refine opt_some (by dsimp only; exact getC_lent rfl rfl (by omega)) ?_ | refine opt_some rfl ?_ | refine ⟨_, (by simp only [nf, nl, nm, en, ints, setC_setC, Nat.reduceAdd, Nat.reduceMul]; exact rfl), ?_⟩ | refine ⟨_, pickT rfl, ?_⟩ | refine ⟨_, rfl, ?_⟩ | refine iteP_true rfl ?_ | refine iteP_false rfl ?_ | refine iteP_true ‹_› ?_ | refine iteP_false ‹_› ?_ | refine andK ?_ | refine andA ?_ | refine andT ?_); conv => whnf))
  refine iteP_intro (fun hb => ?_) (fun hb => ?_) <;> (conv => whnf)
  · have hk2 : k ≤ n := by have := leT hb; omega
    have ht0 : ∃ t, T k = t := ⟨_, rfl⟩
    obtain ⟨t, ht0⟩ := ht0
    have hsn : ints (natI ((List.range (k + 1)).map T)) = .sl false 1 (k + 1) ((natI ((List.range k).map T)).map i64 ++ [i64 ((T k : Nat) : Int)]) := by
      rw [List.range_succ, List.map_append, List.map_singleton, natI_snoc, ints_snoc, hOl]
    repeat (first | ((first | refine opt_some (getC_rows rfl rfl (by omega)) ?_ | refine opt_some (by dsimp only; exact getC_lent rfl rfl (by omega)) ?_ | refine opt_some rfl ?_ | refine ⟨_, (by simp only [nf, nl, nm, en, ints, setC_setC, Nat.reduceAdd, Nat.reduceMul]; exact rfl), ?_⟩ | refine ⟨_, pickT rfl, ?_⟩ | refine ⟨_, rfl, ?_⟩ | refine iteP_true rfl ?_ | refine iteP_false rfl ?_ | refine iteP_true ‹_› ?_ | refine iteP_false ‹_› ?_ | refine andK ?_ | refine andA ?_ | refine andT ?_); conv => whnf))
    refine ⟨fun m vs => ∃ (j : Nat) (h l : Int), j ≤ k ∧ j ≤ 8 ∧ h * 1000000 + l = - sumP (fun i => sgn i * (cntK S i : Int)) T k j ∧ -(256000000000 * j) ≤ h ∧ h ≤ 256000000000 * j ∧ -(256000000 * j) ≤ l ∧ l ≤ 256000000 * j ∧ vs = [.one (i64 n), .one (ints (natI ((List.range k).map T))), .one (i64 k), .one (i64 h), .one (i64 l), .one (i64 ((j + 1 : Nat) : Int)), .one (.shd (ints P))] ∧ m = k - j, rfl, ⟨_, 0, 0, 0, by omega, by omega, by simp [sumP, smI], by omega, by omega, by omega, by omega, rfl, rfl⟩, ?_⟩
    rintro m vs ⟨j, h, l, hj, hj8, hsj, hb1, hb2, hb3, hb4, rfl, rfl⟩
    repeat (first | ((first | refine opt_some (getC_rows rfl rfl (by omega)) ?_ | refine opt_some (by dsimp only; exact getC_lent rfl rfl (by omega)) ?_ | refine opt_some rfl ?_ | refine ⟨_, (by simp only [nf, nl, nm, en, ints, setC_setC, Nat.reduceAdd, Nat.reduceMul]; exact rfl), ?_⟩ | refine ⟨_, pickT rfl, ?_⟩ | refine ⟨_, rfl, ?_⟩ | refine iteP_true rfl ?_ | refine iteP_false rfl ?_ | refine iteP_true ‹_› ?_ | refine iteP_false ‹_› ?_ | refine andK ?_ | refine andA ?_ | refine andT ?_); conv => whnf))
    refine iteP_intro (fun hc => ?_) (fun hc => ?_) <;> (conv => whnf)
    · have hjk : j + 1 ≤ k := by have := leT hc; omega
      repeat (first | ((first | refine opt_some (getC_rows rfl rfl (by omega)) ?_ | refine opt_some (by dsimp only; exact getC_lent rfl rfl (by omega)) ?_ | refine opt_some rfl ?_ | refine ⟨_, (by simp only [nf, nl, nm, en, ints, setC_setC, Nat.reduceAdd, Nat.reduceMul]; exact rfl), ?_⟩ | refine ⟨_, pickT rfl, ?_⟩ | refine ⟨_, rfl, ?_⟩ | refine iteP_true rfl ?_ | refine iteP_false rfl ?_ | refine iteP_true ‹_› ?_ | refine iteP_false ‹_› ?_ | refine andK ?_ | refine andA ?_ | refine andT ?_); conv => whnf))
      (refine ⟨_, hLe, ?_⟩; conv => whnf)
      repeat (first | ((first | refine opt_some (getC_rows rfl rfl (by omega)) ?_ | refine opt_some (by dsimp only; exact getC_lent rfl rfl (by omega)) ?_ | refine opt_some rfl ?_ | refine ⟨_, (by simp only [nf, nl, nm, en, ints, setC_setC, Nat.reduceAdd, Nat.reduceMul]; exact rfl), ?_⟩ | refine ⟨_, pickT rfl, ?_⟩ | refine ⟨_, rfl, ?_⟩ | refine iteP_true rfl ?_ | refine iteP_false rfl ?_ | refine iteP_true ‹_› ?_ | refine iteP_false ‹_› ?_ | refine andK ?_ | refine andA ?_ | refine andT ?_); conv => whnf))
      refine iteP_intro (fun hd => ?_) (fun hd => ?_) <;> (conv => whnf)
      · have hjp : j + 1 < P.length := by have := leT hd; omega
        have hPj := hPg (j + 1) hjp
        have w1 : IntKind.i64.wrap ((k : Int) - ((j + 1 : Nat) : Int)) = ((k - (j + 1) : Nat) : Int) := by rw [wrap_i64 (by omega) (by omega)]; omega
        have hOj := hOg (k - (j + 1)) (by omega)
        have hTj := hT (k - (j + 1)) (by omega)
        have hss := sumP_succ (fun i => sgn i * (cntK S i : Int)) T k j
        have hc256 := hck (j + 1)
        generalize T (k - (j + 1)) = v at hOj hTj hss
        have hv1 : ((v : Nat) : Int).tdiv 1000000 = ((v / 1000000 : Nat) : Int) := by
          rw [Int.tdiv_eq_ediv_of_nonneg (by omega)]
          omega
        have hv2 : ((v : Nat) : Int).tmod 1000000 = ((v % 1000000 : Nat) : Int) := by
          rw [Int.tmod_eq_emod_of_nonneg (by omega)]
          omega
        have hq1 := prod_le (x := sgn (j + 1)) (c := (cntK S (j + 1) : Int)) (t := ((v / 1000000 : Nat) : Int)) (b := 1000000000) (sgn_one _) (by omega) (by omega) (by omega) (by omega)
        have hq2 := prod_le (x := sgn (j + 1)) (c := (cntK S (j + 1) : Int)) (t := ((v % 1000000 : Nat) : Int)) (b := 1000000) (sgn_one _) (by omega) (by omega) (by omega) (by omega)
        have hvv : sgn (j + 1) * (cntK S (j + 1) : Int) * ((v : Nat) : Int) = sgn (j + 1) * (cntK S (j + 1) : Int) * ((v / 1000000 : Nat) : Int) * 1000000 + sgn (j + 1) * (cntK S (j + 1) : Int) * ((v % 1000000 : Nat) : Int) := by
          rw [show ((v : Nat) : Int) = ((v / 1000000 : Nat) : Int) * 1000000 + ((v % 1000000 : Nat) : Int) by omega, Int.mul_add, ← Int.mul_assoc]
        have w2 : IntKind.i64.wrap (((v / 1000000 : Nat) : Int)) = ((v / 1000000 : Nat) : Int) := wrap_i64 (by omega) (by omega)
        have hz1 : ∃ q1, sgn (j + 1) * (cntK S (j + 1) : Int) * ((v / 1000000 : Nat) : Int) = q1 := ⟨_, rfl⟩
        have hz2 : ∃ q2, sgn (j + 1) * (cntK S (j + 1) : Int) * ((v % 1000000 : Nat) : Int) = q2 := ⟨_, rfl⟩
        obtain ⟨q1, hz1⟩ := hz1
        obtain ⟨q2, hz2⟩ := hz2
        rw [hz1] at hq1 hvv
        rw [hz2] at hq2 hvv
        have w3 : IntKind.i64.wrap (sgn (j + 1) * (cntK S (j + 1) : Int) * ((v / 1000000 : Nat) : Int)) = q1 := by rw [hz1]; exact wrap_i64 (by omega) (by omega)
        have w4 : IntKind.i64.wrap (sgn (j + 1) * (cntK S (j + 1) : Int) * ((v % 1000000 : Nat) : Int)) = q2 := by rw [hz2]; exact wrap_i64 (by omega) (by omega)
        have w5 : IntKind.i64.wrap (h - q1) = h - q1 := wrap_i64 (by omega) (by omega)
        have w6 : IntKind.i64.wrap (l - q2) = l - q2 := wrap_i64 (by omega) (by omega)
        repeat (first | ((first | refine opt_some (getC_rows rfl rfl (by omega)) ?_ | refine opt_some (by dsimp only; exact getC_lent rfl rfl (by omega)) ?_ | refine opt_some rfl ?_ | refine ⟨_, (by simp only [nf, nl, nm, en, ints, setC_setC, Nat.reduceAdd, Nat.reduceMul, hPj, w1, hOj, hv1, hv2, w2, w3, w4, w5, w6]; exact rfl), ?_⟩ | refine ⟨_, pickT rfl, ?_⟩ | refine ⟨_, rfl, ?_⟩ | refine iteP_true rfl ?_ | refine iteP_false rfl ?_ | refine iteP_true ‹_› ?_ | refine iteP_false ‹_› ?_ | refine andK ?_ | refine andA ?_ | refine andT ?_); conv => whnf))
        refine ⟨_, ?_, j + 1, h - q1, l - q2, hjk, by omega, ?_, by omega, by omega, by omega, by omega, ?_, rfl⟩
        · omega
        · rw [hss, hvv]
          omega
        · rw [wrap_succ (by omega)]
          rfl
      · have hjp : ¬ j + 1 < P.length := by have := leF hd; omega
        have hs := hsum k (by omega) j (by omega)
        rw [← hsj, ht0] at hs
        have hd0 : ∃ h1 l1 : Int, l.tdiv 1000000 + h = h1 ∧ l.tmod 1000000 = l1 ∧ h1 * 1000000 + l1 = (t : Int) ∧ -1000000 < l1 ∧ l1 < 1000000 ∧ -4000000000000 ≤ h1 ∧ h1 ≤ 4000000000000 := by
          have hdm := Int.mul_tdiv_add_tmod l 1000000
          have hlt := Int.tmod_lt_of_pos l (show (0 : Int) < 1000000 by omega)
          have hgt := Int.lt_tmod_of_pos l (show (0 : Int) < 1000000 by omega)
          exact ⟨_, _, rfl, rfl, by omega, by omega, by omega, by omega, by omega⟩
        obtain ⟨h1, l1, hh1, hl1, hs1, hla, hlb, hha, hhb⟩ := hd0
        have e1 : IntKind.i64.wrap (h + IntKind.i64.wrap (l.tdiv 1000000)) = h1 := by
          rw [wrap_i64 (a := l.tdiv 1000000) (by omega) (by omega), wrap_i64 (by omega) (by omega)]
          omega
        have hneg : decide (h1 < -2000000000) = false := decide_eq_false (by omega)
        by_cases hbig : 2000000000 < h1
        · have hgt : decide (h1 > 2000000000) = true := decide_eq_true hbig
          have hB : 1000000000000000 < T n := trc_big hk2 (by show 1000000000000000 < T k; omega)
          rw [if_pos hB, if_pos hB]
          repeat (first | ((first | refine opt_some (getC_rows rfl rfl (by omega)) ?_ | refine opt_some (by dsimp only; exact getC_lent rfl rfl (by omega)) ?_ | refine opt_some rfl ?_ | refine ⟨_, (by simp only [nf, nl, nm, en, ints, setC_setC, Nat.reduceAdd, Nat.reduceMul, e1, hl1, hgt]; exact rfl), ?_⟩ | refine ⟨_, pickT rfl, ?_⟩ | refine ⟨_, rfl, ?_⟩ | refine iteP_true rfl ?_ | refine iteP_false rfl ?_ | refine iteP_true ‹_› ?_ | refine iteP_false ‹_› ?_ | refine andK ?_ | refine andA ?_ | refine andT ?_); conv => whnf))
          rfl
        have hgt : decide (h1 > 2000000000) = false := decide_eq_false hbig
        have e2 : IntKind.i64.wrap (h1 * 1000000) = h1 * 1000000 := wrap_i64 (by omega) (by omega)
        have e3 : IntKind.i64.wrap (h1 * 1000000 + l1) = (t : Int) := by rw [wrap_i64 (by omega) (by omega), hs1]
        have hIR := inRange_ret (t : Int) (-1000000000000000) 1000000000000000
        by_cases ht : t ≤ 1000000000000000
        · rw [decide_eq_true (show (-1000000000000000 : Int) ≤ (t : Int) ∧ (t : Int) ≤ 1000000000000000 by omega)] at hIR
          repeat (first | ((first | refine opt_some (getC_rows rfl rfl (by omega)) ?_ | refine opt_some (by dsimp only; exact getC_lent rfl rfl (by omega)) ?_ | refine opt_some rfl ?_ | refine ⟨_, (by simp only [nf, nl, nm, en, ints, setC_setC, Nat.reduceAdd, Nat.reduceMul, e1, hl1, hgt, hneg, e2, e3]; exact rfl), ?_⟩ | refine ⟨_, pickT rfl, ?_⟩ | refine ⟨_, rfl, ?_⟩ | refine iteP_true rfl ?_ | refine iteP_false rfl ?_ | refine iteP_true ‹_› ?_ | refine iteP_false ‹_› ?_ | refine andK ?_ | refine andA ?_ | refine andT ?_); conv => whnf))
          (refine ⟨_, hIR, ?_⟩; conv => whnf)
          repeat (first | ((first | refine opt_some (getC_rows rfl rfl (by omega)) ?_ | refine opt_some (by dsimp only; exact getC_lent rfl rfl (by omega)) ?_ | refine opt_some rfl ?_ | refine ⟨_, (by simp only [nf, nl, nm, en, ints, setC_setC, Nat.reduceAdd, Nat.reduceMul]; exact rfl), ?_⟩ | refine ⟨_, pickT rfl, ?_⟩ | refine ⟨_, rfl, ?_⟩ | refine iteP_true rfl ?_ | refine iteP_false rfl ?_ | refine iteP_true ‹_› ?_ | refine iteP_false ‹_› ?_ | refine andK ?_ | refine andA ?_ | refine andT ?_); conv => whnf))
          refine ⟨_, ?_, k + 1, by omega, by omega, fun i hi => ?_, ?_, rfl⟩
          · omega
          · by_cases hik : i = k
            · rw [hik]; omega
            · exact hT i (by omega)
          · rw [wrap_succ (by omega), hsn, ht0, hOl]
            rfl
        · rw [decide_eq_false (show ¬ ((-1000000000000000 : Int) ≤ (t : Int) ∧ (t : Int) ≤ 1000000000000000) by omega)] at hIR
          have hB : 1000000000000000 < T n := trc_big hk2 (by show 1000000000000000 < T k; omega)
          rw [if_pos hB, if_pos hB]
          repeat (first | ((first | refine opt_some (getC_rows rfl rfl (by omega)) ?_ | refine opt_some (by dsimp only; exact getC_lent rfl rfl (by omega)) ?_ | refine opt_some rfl ?_ | refine ⟨_, (by simp only [nf, nl, nm, en, ints, setC_setC, Nat.reduceAdd, Nat.reduceMul, e1, hl1, hgt, hneg, e2, e3]; exact rfl), ?_⟩ | refine ⟨_, pickT rfl, ?_⟩ | refine ⟨_, rfl, ?_⟩ | refine iteP_true rfl ?_ | refine iteP_false rfl ?_ | refine iteP_true ‹_› ?_ | refine iteP_false ‹_› ?_ | refine andK ?_ | refine andA ?_ | refine andT ?_); conv => whnf))
          (refine ⟨_, hIR, ?_⟩; conv => whnf)
          repeat (first | ((first | refine opt_some (getC_rows rfl rfl (by omega)) ?_ | refine opt_some (by dsimp only; exact getC_lent rfl rfl (by omega)) ?_ | refine opt_some rfl ?_ | refine ⟨_, (by simp only [nf, nl, nm, en, ints, setC_setC, Nat.reduceAdd, Nat.reduceMul]; exact rfl), ?_⟩ | refine ⟨_, pickT rfl, ?_⟩ | refine ⟨_, rfl, ?_⟩ | refine iteP_true rfl ?_ | refine iteP_false rfl ?_ | refine iteP_true ‹_› ?_ | refine iteP_false ‹_› ?_ | refine andK ?_ | refine andA ?_ | refine andT ?_); conv => whnf))
          rfl
    · have hjk : j = k := by have := leF hc; omega
      have hs := hsum k (by omega) j (by omega)
      rw [← hsj, ht0] at hs
      have hd0 : ∃ h1 l1 : Int, l.tdiv 1000000 + h = h1 ∧ l.tmod 1000000 = l1 ∧ h1 * 1000000 + l1 = (t : Int) ∧ -1000000 < l1 ∧ l1 < 1000000 ∧ -4000000000000 ≤ h1 ∧ h1 ≤ 4000000000000 := by
        have hdm := Int.mul_tdiv_add_tmod l 1000000
        have hlt := Int.tmod_lt_of_pos l (show (0 : Int) < 1000000 by omega)
        have hgt := Int.lt_tmod_of_pos l (show (0 : Int) < 1000000 by omega)
        exact ⟨_, _, rfl, rfl, by omega, by omega, by omega, by omega, by omega⟩
      obtain ⟨h1, l1, hh1, hl1, hs1, hla, hlb, hha, hhb⟩ := hd0
      have e1 : IntKind.i64.wrap (h + IntKind.i64.wrap (l.tdiv 1000000)) = h1 := by
        rw [wrap_i64 (a := l.tdiv 1000000) (by omega) (by omega), wrap_i64 (by omega) (by omega)]
        omega
      have hneg : decide (h1 < -2000000000) = false := decide_eq_false (by omega)
      by_cases hbig : 2000000000 < h1
      · have hgt : decide (h1 > 2000000000) = true := decide_eq_true hbig
        have hB : 1000000000000000 < T n := trc_big hk2 (by show 1000000000000000 < T k; omega)
        rw [if_pos hB, if_pos hB]
        repeat (first | ((first | refine opt_some (getC_rows rfl rfl (by omega)) ?_ | refine opt_some (by dsimp only; exact getC_lent rfl rfl (by omega)) ?_ | refine opt_some rfl ?_ | refine ⟨_, (by simp only [nf, nl, nm, en, ints, setC_setC, Nat.reduceAdd, Nat.reduceMul, e1, hl1, hgt]; exact rfl), ?_⟩ | refine ⟨_, pickT rfl, ?_⟩ | refine ⟨_, rfl, ?_⟩ | refine iteP_true rfl ?_ | refine iteP_false rfl ?_ | refine iteP_true ‹_› ?_ | refine iteP_false ‹_› ?_ | refine andK ?_ | refine andA ?_ | refine andT ?_); conv => whnf))
        rfl
      have hgt : decide (h1 > 2000000000) = false := decide_eq_false hbig
      have e2 : IntKind.i64.wrap (h1 * 1000000) = h1 * 1000000 := wrap_i64 (by omega) (by omega)
      have e3 : IntKind.i64.wrap (h1 * 1000000 + l1) = (t : Int) := by rw [wrap_i64 (by omega) (by omega), hs1]
      have hIR := inRange_ret (t : Int) (-1000000000000000) 1000000000000000
      by_cases ht : t ≤ 1000000000000000
      · rw [decide_eq_true (show (-1000000000000000 : Int) ≤ (t : Int) ∧ (t : Int) ≤ 1000000000000000 by omega)] at hIR
        repeat (first | ((first | refine opt_some (getC_rows rfl rfl (by omega)) ?_ | refine opt_some (by dsimp only; exact getC_lent rfl rfl (by omega)) ?_ | refine opt_some rfl ?_ | refine ⟨_, (by simp only [nf, nl, nm, en, ints, setC_setC, Nat.reduceAdd, Nat.reduceMul, e1, hl1, hgt, hneg, e2, e3]; exact rfl), ?_⟩ | refine ⟨_, pickT rfl, ?_⟩ | refine ⟨_, rfl, ?_⟩ | refine iteP_true rfl ?_ | refine iteP_false rfl ?_ | refine iteP_true ‹_› ?_ | refine iteP_false ‹_› ?_ | refine andK ?_ | refine andA ?_ | refine andT ?_); conv => whnf))
        (refine ⟨_, hIR, ?_⟩; conv => whnf)
        repeat (first | ((first | refine opt_some (getC_rows rfl rfl (by omega)) ?_ | refine opt_some (by dsimp only; exact getC_lent rfl rfl (by omega)) ?_ | refine opt_some rfl ?_ | refine ⟨_, (by simp only [nf, nl, nm, en, ints, setC_setC, Nat.reduceAdd, Nat.reduceMul]; exact rfl), ?_⟩ | refine ⟨_, pickT rfl, ?_⟩ | refine ⟨_, rfl, ?_⟩ | refine iteP_true rfl ?_ | refine iteP_false rfl ?_ | refine iteP_true ‹_› ?_ | refine iteP_false ‹_› ?_ | refine andK ?_ | refine andA ?_ | refine andT ?_); conv => whnf))
        refine ⟨_, ?_, k + 1, by omega, by omega, fun i hi => ?_, ?_, rfl⟩
        · omega
        · by_cases hik : i = k
          · rw [hik]; omega
          · exact hT i (by omega)
        · rw [wrap_succ (by omega), hsn, ht0, hOl]
          rfl
      · rw [decide_eq_false (show ¬ ((-1000000000000000 : Int) ≤ (t : Int) ∧ (t : Int) ≤ 1000000000000000) by omega)] at hIR
        have hB : 1000000000000000 < T n := trc_big hk2 (by show 1000000000000000 < T k; omega)
        rw [if_pos hB, if_pos hB]
        repeat (first | ((first | refine opt_some (getC_rows rfl rfl (by omega)) ?_ | refine opt_some (by dsimp only; exact getC_lent rfl rfl (by omega)) ?_ | refine opt_some rfl ?_ | refine ⟨_, (by simp only [nf, nl, nm, en, ints, setC_setC, Nat.reduceAdd, Nat.reduceMul, e1, hl1, hgt, hneg, e2, e3]; exact rfl), ?_⟩ | refine ⟨_, pickT rfl, ?_⟩ | refine ⟨_, rfl, ?_⟩ | refine iteP_true rfl ?_ | refine iteP_false rfl ?_ | refine iteP_true ‹_› ?_ | refine iteP_false ‹_› ?_ | refine andK ?_ | refine andA ?_ | refine andT ?_); conv => whnf))
        (refine ⟨_, hIR, ?_⟩; conv => whnf)
        repeat (first | ((first | refine opt_some (getC_rows rfl rfl (by omega)) ?_ | refine opt_some (by dsimp only; exact getC_lent rfl rfl (by omega)) ?_ | refine opt_some rfl ?_ | refine ⟨_, (by simp only [nf, nl, nm, en, ints, setC_setC, Nat.reduceAdd, Nat.reduceMul]; exact rfl), ?_⟩ | refine ⟨_, pickT rfl, ?_⟩ | refine ⟨_, rfl, ?_⟩ | refine iteP_true rfl ?_ | refine iteP_false rfl ?_ | refine iteP_true ‹_› ?_ | refine iteP_false ‹_› ?_ | refine andK ?_ | refine andA ?_ | refine andT ?_); conv => whnf))
        rfl
  · have hke : k = n + 1 := by have := leF hb; omega
    have hB : ¬ 1000000000000000 < T n := by have := hT n (by omega); omega
    rw [if_neg hB, if_neg hB]
    subst hke
    repeat' (first | ((first | refine opt_some (getC_rows rfl rfl (by omega)) ?_ | refine opt_some (by dsimp only; exact getC_lent rfl rfl (by omega)) ?_ | refine opt_some rfl ?_ | refine ⟨_, (by simp only [nf, nl, nm, en, ints, setC_setC, Nat.reduceAdd, Nat.reduceMul]; exact rfl), ?_⟩ | refine ⟨_, pickT rfl, ?_⟩ | refine ⟨_, rfl, ?_⟩ | refine iteP_true rfl ?_ | refine iteP_false rfl ?_ | refine iteP_true ‹_› ?_ | refine iteP_false ‹_› ?_ | refine andK ?_ | refine andA ?_ | refine andT ?_); conv => whnf) | (refine iteP_intro (fun hb => ?_) (fun hb => ?_) <;> (conv => whnf)))
    rfl
/-- The number of traces with c letters, and the code. -/
def chkN (n : Int) (ds : List Int) (c : Int) : Int × Int :=
  if alphaOk n ds then (if 0 ≤ c ∧ c ≤ 24 then (if 1000000000000000 < trc (ds.map Int.toNat).length (dep (ds.map Int.toNat)) c.toNat then (0, 3) else (((trc (ds.map Int.toNat).length (dep (ds.map Int.toNat)) c.toNat : Nat) : Int), 0)) else (0, 2)) else (0, 1)
theorem chkN_bad {n : Int} {ds : List Int} {c : Int} (h : alphaOk n ds = false) : chkN n ds c = (0, 1) := by
  unfold chkN
  rw [if_neg (by rw [h]; simp)]
theorem chkN_out {n : Int} {ds : List Int} {c : Int} (h : alphaOk n ds = true) (hc : ¬ (0 ≤ c ∧ c ≤ 24)) : chkN n ds c = (0, 2) := by
  unfold chkN
  rw [if_pos h, if_neg hc]
theorem chkN_in {n : Int} {ds : List Int} {ms : List Nat} {k : Nat} (h : alphaOk n ds = true) (hk : k ≤ 24) (e1 : ds.map Int.toNat = ms) : chkN n ds k = if 1000000000000000 < trc ms.length (dep ms) k then (0, 3) else (((trc ms.length (dep ms) k : Nat) : Int), 0) := by
  unfold chkN
  rw [if_pos h, if_pos (by omega), e1, Int.toNat_natCast]
set_option maxHeartbeats 16000000 in
set_option maxRecDepth 100000 in
theorem checkCount_ret (n : Int) (ds : List Int) (c : Int) (hd : ds.length < 2 ^ 62) : Ret Tryd.prog G0 61 [⟨.ro, .agg [i64 n, ints ds]⟩, ⟨.ro, .one (i64 c)⟩] ⟨.tup [(false, [i64 (chkN n ds c).1]), (false, [i64 (chkN n ds c).2])], []⟩ := by
  have hI := isAlpha_ret n ds hd
  have hR := inRange_ret c 0 24
  cases h1 : alphaOk n ds with
  | false =>
    rw [chkN_bad h1]
    rw [h1] at hI
    (refine ret_of_den (E := en 28 [] (fun _ => []) (fun _ => [])) tt_ok mixed Tryd.func61 rfl rfl rfl rfl ?_; refine ⟨by simp, ?_⟩)
    repeat' (first | ((first | refine opt_some (getC_rows rfl rfl (by omega)) ?_ | refine opt_some (by dsimp only; exact getC_lent rfl rfl (by omega)) ?_ | refine opt_some rfl ?_ | refine ⟨_, (by simp only [nf, nl, nm, en, ints, setC_setC, Nat.reduceAdd, Nat.reduceMul]; exact rfl), ?_⟩ | refine ⟨_, pickT rfl, ?_⟩ | refine ⟨_, rfl, ?_⟩ | refine iteP_true rfl ?_ | refine iteP_false rfl ?_ | refine iteP_true ‹_› ?_ | refine iteP_false ‹_› ?_ | refine andK ?_ | refine andA ?_ | refine andT ?_); conv => whnf) | (refine iteP_intro (fun hb => ?_) (fun hb => ?_) <;> (conv => whnf)))
    (refine ⟨_, hI, ?_⟩; conv => whnf)
    repeat' (first | ((first | refine opt_some (getC_rows rfl rfl (by omega)) ?_ | refine opt_some (by dsimp only; exact getC_lent rfl rfl (by omega)) ?_ | refine opt_some rfl ?_ | refine ⟨_, (by simp only [nf, nl, nm, en, ints, setC_setC, Nat.reduceAdd, Nat.reduceMul]; exact rfl), ?_⟩ | refine ⟨_, pickT rfl, ?_⟩ | refine ⟨_, rfl, ?_⟩ | refine iteP_true rfl ?_ | refine iteP_false rfl ?_ | refine iteP_true ‹_› ?_ | refine iteP_false ‹_› ?_ | refine andK ?_ | refine andA ?_ | refine andT ?_); conv => whnf) | (refine iteP_intro (fun hb => ?_) (fun hb => ?_) <;> (conv => whnf)))
    rfl
  | true =>
    rw [h1] at hI
    by_cases hc : 0 ≤ c ∧ c ≤ 24
    rotate_left
    · rw [chkN_out h1 hc]
      rw [decide_eq_false hc] at hR
      (refine ret_of_den (E := en 28 [] (fun _ => []) (fun _ => [])) tt_ok mixed Tryd.func61 rfl rfl rfl rfl ?_; refine ⟨by simp, ?_⟩)
      repeat' (first | ((first | refine opt_some (getC_rows rfl rfl (by omega)) ?_ | refine opt_some (by dsimp only; exact getC_lent rfl rfl (by omega)) ?_ | refine opt_some rfl ?_ | refine ⟨_, (by simp only [nf, nl, nm, en, ints, setC_setC, Nat.reduceAdd, Nat.reduceMul]; exact rfl), ?_⟩ | refine ⟨_, pickT rfl, ?_⟩ | refine ⟨_, rfl, ?_⟩ | refine iteP_true rfl ?_ | refine iteP_false rfl ?_ | refine iteP_true ‹_› ?_ | refine iteP_false ‹_› ?_ | refine andK ?_ | refine andA ?_ | refine andT ?_); conv => whnf) | (refine iteP_intro (fun hb => ?_) (fun hb => ?_) <;> (conv => whnf)))
      (refine ⟨_, hI, ?_⟩; conv => whnf)
      repeat' (first | ((first | refine opt_some (getC_rows rfl rfl (by omega)) ?_ | refine opt_some (by dsimp only; exact getC_lent rfl rfl (by omega)) ?_ | refine opt_some rfl ?_ | refine ⟨_, (by simp only [nf, nl, nm, en, ints, setC_setC, Nat.reduceAdd, Nat.reduceMul]; exact rfl), ?_⟩ | refine ⟨_, pickT rfl, ?_⟩ | refine ⟨_, rfl, ?_⟩ | refine iteP_true rfl ?_ | refine iteP_false rfl ?_ | refine iteP_true ‹_› ?_ | refine iteP_false ‹_› ?_ | refine andK ?_ | refine andA ?_ | refine andT ?_); conv => whnf) | (refine iteP_intro (fun hb => ?_) (fun hb => ?_) <;> (conv => whnf)))
      (refine ⟨_, hR, ?_⟩; conv => whnf)
      repeat' (first | ((first | refine opt_some (getC_rows rfl rfl (by omega)) ?_ | refine opt_some (by dsimp only; exact getC_lent rfl rfl (by omega)) ?_ | refine opt_some rfl ?_ | refine ⟨_, (by simp only [nf, nl, nm, en, ints, setC_setC, Nat.reduceAdd, Nat.reduceMul]; exact rfl), ?_⟩ | refine ⟨_, pickT rfl, ?_⟩ | refine ⟨_, rfl, ?_⟩ | refine iteP_true rfl ?_ | refine iteP_false rfl ?_ | refine iteP_true ‹_› ?_ | refine iteP_false ‹_› ?_ | refine andK ?_ | refine andA ?_ | refine andT ?_); conv => whnf) | (refine iteP_intro (fun hb => ?_) (fun hb => ?_) <;> (conv => whnf)))
      rfl
    · rw [decide_eq_true hc] at hR
      obtain ⟨ms, e1, rfl, rfl, hl, hA⟩ := alpha_ok h1
      obtain ⟨k, rfl⟩ : ∃ k : Nat, c = k := ⟨c.toNat, by omega⟩
      have hk : k ≤ 24 := by omega
      rw [chkN_in h1 hk e1]
      have hP := poly_ret ms hA hl
      have hV := inverse_ret ms hA hl k hk
      have hOl : (natI ((List.range (k + 1)).map (trc ms.length (dep ms)))).length = k + 1 := by rw [natI_length, List.length_map, List.length_range]
      have hOg : ∀ i (h : i < (natI ((List.range (k + 1)).map (trc ms.length (dep ms)))).length), (natI ((List.range (k + 1)).map (trc ms.length (dep ms))))[i] = ((trc ms.length (dep ms) i : Nat) : Int) := fun i h => by simp [natI]
      have hOk := hOg k (by omega)
      by_cases hB : 1000000000000000 < trc ms.length (dep ms) k
      · rw [if_pos hB, if_pos hB] at hV
        rw [if_pos hB]
        (refine ret_of_den (E := en 28 [] (fun _ => []) (fun _ => [])) tt_ok mixed Tryd.func61 rfl rfl rfl rfl ?_; refine ⟨by simp, ?_⟩)
        repeat' (first | ((first | refine opt_some (getC_rows rfl rfl (by omega)) ?_ | refine opt_some (by dsimp only; exact getC_lent rfl rfl (by omega)) ?_ | refine opt_some rfl ?_ | refine ⟨_, (by simp only [nf, nl, nm, en, ints, setC_setC, Nat.reduceAdd, Nat.reduceMul]; exact rfl), ?_⟩ | refine ⟨_, pickT rfl, ?_⟩ | refine ⟨_, rfl, ?_⟩ | refine iteP_true rfl ?_ | refine iteP_false rfl ?_ | refine iteP_true ‹_› ?_ | refine iteP_false ‹_› ?_ | refine andK ?_ | refine andA ?_ | refine andT ?_); conv => whnf) | (refine iteP_intro (fun hb => ?_) (fun hb => ?_) <;> (conv => whnf)))
        (refine ⟨_, hI, ?_⟩; conv => whnf)
        repeat' (first | ((first | refine opt_some (getC_rows rfl rfl (by omega)) ?_ | refine opt_some (by dsimp only; exact getC_lent rfl rfl (by omega)) ?_ | refine opt_some rfl ?_ | refine ⟨_, (by simp only [nf, nl, nm, en, ints, setC_setC, Nat.reduceAdd, Nat.reduceMul]; exact rfl), ?_⟩ | refine ⟨_, pickT rfl, ?_⟩ | refine ⟨_, rfl, ?_⟩ | refine iteP_true rfl ?_ | refine iteP_false rfl ?_ | refine iteP_true ‹_› ?_ | refine iteP_false ‹_› ?_ | refine andK ?_ | refine andA ?_ | refine andT ?_); conv => whnf) | (refine iteP_intro (fun hb => ?_) (fun hb => ?_) <;> (conv => whnf)))
        (refine ⟨_, hR, ?_⟩; conv => whnf)
        repeat' (first | ((first | refine opt_some (getC_rows rfl rfl (by omega)) ?_ | refine opt_some (by dsimp only; exact getC_lent rfl rfl (by omega)) ?_ | refine opt_some rfl ?_ | refine ⟨_, (by simp only [nf, nl, nm, en, ints, setC_setC, Nat.reduceAdd, Nat.reduceMul]; exact rfl), ?_⟩ | refine ⟨_, pickT rfl, ?_⟩ | refine ⟨_, rfl, ?_⟩ | refine iteP_true rfl ?_ | refine iteP_false rfl ?_ | refine iteP_true ‹_› ?_ | refine iteP_false ‹_› ?_ | refine andK ?_ | refine andA ?_ | refine andT ?_); conv => whnf) | (refine iteP_intro (fun hb => ?_) (fun hb => ?_) <;> (conv => whnf)))
        (refine ⟨_, hP, ?_⟩; conv => whnf)
        repeat' (first | ((first | refine opt_some (getC_rows rfl rfl (by omega)) ?_ | refine opt_some (by dsimp only; exact getC_lent rfl rfl (by omega)) ?_ | refine opt_some rfl ?_ | refine ⟨_, (by simp only [nf, nl, nm, en, ints, setC_setC, Nat.reduceAdd, Nat.reduceMul]; exact rfl), ?_⟩ | refine ⟨_, pickT rfl, ?_⟩ | refine ⟨_, rfl, ?_⟩ | refine iteP_true rfl ?_ | refine iteP_false rfl ?_ | refine iteP_true ‹_› ?_ | refine iteP_false ‹_› ?_ | refine andK ?_ | refine andA ?_ | refine andT ?_); conv => whnf) | (refine iteP_intro (fun hb => ?_) (fun hb => ?_) <;> (conv => whnf)))
        (refine ⟨_, hV, ?_⟩; conv => whnf)
        repeat' (first | ((first | refine opt_some (getC_rows rfl rfl (by omega)) ?_ | refine opt_some (by dsimp only; exact getC_lent rfl rfl (by omega)) ?_ | refine opt_some rfl ?_ | refine ⟨_, (by simp only [nf, nl, nm, en, ints, setC_setC, Nat.reduceAdd, Nat.reduceMul]; exact rfl), ?_⟩ | refine ⟨_, pickT rfl, ?_⟩ | refine ⟨_, rfl, ?_⟩ | refine iteP_true rfl ?_ | refine iteP_false rfl ?_ | refine iteP_true ‹_› ?_ | refine iteP_false ‹_› ?_ | refine andK ?_ | refine andA ?_ | refine andT ?_); conv => whnf) | (refine iteP_intro (fun hb => ?_) (fun hb => ?_) <;> (conv => whnf)))
        rfl
      · rw [if_neg hB, if_neg hB] at hV
        rw [if_neg hB]
        (refine ret_of_den (E := en 28 [] (fun _ => []) (fun _ => [])) tt_ok mixed Tryd.func61 rfl rfl rfl rfl ?_; refine ⟨by simp, ?_⟩)
        repeat' (first | ((first | refine opt_some (getC_rows rfl rfl (by omega)) ?_ | refine opt_some (by dsimp only; exact getC_lent rfl rfl (by omega)) ?_ | refine opt_some rfl ?_ | refine ⟨_, (by simp only [nf, nl, nm, en, ints, setC_setC, Nat.reduceAdd, Nat.reduceMul]; exact rfl), ?_⟩ | refine ⟨_, pickT rfl, ?_⟩ | refine ⟨_, rfl, ?_⟩ | refine iteP_true rfl ?_ | refine iteP_false rfl ?_ | refine iteP_true ‹_› ?_ | refine iteP_false ‹_› ?_ | refine andK ?_ | refine andA ?_ | refine andT ?_); conv => whnf) | (refine iteP_intro (fun hb => ?_) (fun hb => ?_) <;> (conv => whnf)))
        (refine ⟨_, hI, ?_⟩; conv => whnf)
        repeat' (first | ((first | refine opt_some (getC_rows rfl rfl (by omega)) ?_ | refine opt_some (by dsimp only; exact getC_lent rfl rfl (by omega)) ?_ | refine opt_some rfl ?_ | refine ⟨_, (by simp only [nf, nl, nm, en, ints, setC_setC, Nat.reduceAdd, Nat.reduceMul]; exact rfl), ?_⟩ | refine ⟨_, pickT rfl, ?_⟩ | refine ⟨_, rfl, ?_⟩ | refine iteP_true rfl ?_ | refine iteP_false rfl ?_ | refine iteP_true ‹_› ?_ | refine iteP_false ‹_› ?_ | refine andK ?_ | refine andA ?_ | refine andT ?_); conv => whnf) | (refine iteP_intro (fun hb => ?_) (fun hb => ?_) <;> (conv => whnf)))
        (refine ⟨_, hR, ?_⟩; conv => whnf)
        repeat' (first | ((first | refine opt_some (getC_rows rfl rfl (by omega)) ?_ | refine opt_some (by dsimp only; exact getC_lent rfl rfl (by omega)) ?_ | refine opt_some rfl ?_ | refine ⟨_, (by simp only [nf, nl, nm, en, ints, setC_setC, Nat.reduceAdd, Nat.reduceMul]; exact rfl), ?_⟩ | refine ⟨_, pickT rfl, ?_⟩ | refine ⟨_, rfl, ?_⟩ | refine iteP_true rfl ?_ | refine iteP_false rfl ?_ | refine iteP_true ‹_› ?_ | refine iteP_false ‹_› ?_ | refine andK ?_ | refine andA ?_ | refine andT ?_); conv => whnf) | (refine iteP_intro (fun hb => ?_) (fun hb => ?_) <;> (conv => whnf)))
        (refine ⟨_, hP, ?_⟩; conv => whnf)
        repeat' (first | ((first | refine opt_some (getC_rows rfl rfl (by omega)) ?_ | refine opt_some (by dsimp only; exact getC_lent rfl rfl (by omega)) ?_ | refine opt_some rfl ?_ | refine ⟨_, (by simp only [nf, nl, nm, en, ints, setC_setC, Nat.reduceAdd, Nat.reduceMul]; exact rfl), ?_⟩ | refine ⟨_, pickT rfl, ?_⟩ | refine ⟨_, rfl, ?_⟩ | refine iteP_true rfl ?_ | refine iteP_false rfl ?_ | refine iteP_true ‹_› ?_ | refine iteP_false ‹_› ?_ | refine andK ?_ | refine andA ?_ | refine andT ?_); conv => whnf) | (refine iteP_intro (fun hb => ?_) (fun hb => ?_) <;> (conv => whnf)))
        (refine ⟨_, hV, ?_⟩; conv => whnf)
        repeat' (first | ((first | refine opt_some (getC_rows rfl rfl (by omega)) ?_ | refine opt_some (by dsimp only; exact getC_lent rfl rfl (by omega)) ?_ | refine opt_some rfl ?_ | refine ⟨_, (by simp only [nf, nl, nm, en, ints, setC_setC, Nat.reduceAdd, Nat.reduceMul, hOk]; exact rfl), ?_⟩ | refine ⟨_, pickT rfl, ?_⟩ | refine ⟨_, rfl, ?_⟩ | refine iteP_true rfl ?_ | refine iteP_false rfl ?_ | refine iteP_true ‹_› ?_ | refine iteP_false ‹_› ?_ | refine andK ?_ | refine andA ?_ | refine andT ?_); conv => whnf) | (refine iteP_intro (fun hb => ?_) (fun hb => ?_) <;> (conv => whnf)))
        rfl
end Go.Proofs.YtihdeagknggeiaaDoor
