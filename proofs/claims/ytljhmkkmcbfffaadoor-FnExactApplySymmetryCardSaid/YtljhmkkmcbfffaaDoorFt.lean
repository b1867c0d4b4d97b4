import Derived.Test.YtljhmkkmcbfffaaDoorFs
set_option autoImplicit false
set_option linter.unusedSimpArgs false
set_option linter.unusedVariables false
namespace Go.Proofs.YtljhmkkmcbfffaaDoor
open Go.Den
set_option maxHeartbeats 4000000 in
set_option maxRecDepth 100000 in
theorem l08Sym_ret (ms s : List Nat) (hA : Alpha ms) (hl : ms.length ≤ 8) (hsl : s.length = ms.length) (hs : ∀ a ∈ s, a < ms.length) : Ret Tryd.prog G0 75 [⟨.ro, .agg [i64 ms.length, ints (natI ms)]⟩, ⟨.ro, .one (ints (natI s))⟩] ⟨.one (.c (.bool (symP ms s))), []⟩ := by
  have hsn := natI_length s
  (refine ret_of_den (E := en 55 [] (fun | 2 => [(2, 0), (5, 0), (1, 1)] | 5 => [(2, 0), (5, 0), (6, 0), (1, 1)] | _ => []) (fun _ => [])) tt_ok mixed Tryd.func75 rfl rfl rfl rfl ?_; refine ⟨by simp, ?_⟩)
  repeat (first | (refine opt_some (getC_rows rfl rfl (by omega)) ?_; conv => whnf) | (refine opt_some (by dsimp only; exact getC_lent rfl rfl (by omega)) ?_; conv => whnf) | (refine opt_some rfl ?_; conv => whnf) | (refine ⟨_, (by simp only [nf, nl, nm, en, ints, setC_setC, Nat.reduceAdd, Nat.reduceMul]; exact rfl), ?_⟩; conv => whnf) | (refine ⟨_, pick_at rfl (by first | omega | (simp only [plain_i64, plain_ints, plain_nil, all_ints]; done) | (dsimp only; omega) | exact Nat.le_of_ble_eq_true rfl | rfl | (simp; done) | (simp only [htf] at *; first | omega | (simp; omega))), ?_⟩; conv => whnf) | (refine ⟨_, rfl, ?_⟩; conv => whnf) | (first | refine iteP_true rfl ?_ | refine iteP_false rfl ?_ | refine iteP_true ‹_› ?_ | refine iteP_false ‹_› ?_; conv => whnf) | (refine And.intro (by kernel_rfl : indep _ _ = true) ?_; conv => whnf) | (refine And.intro (by rfl : List.all _ _ = true) ?_; conv => whnf) | (refine And.intro (by first | omega | (simp only [plain_i64, plain_ints, plain_nil, all_ints]; done) | (dsimp only; omega) | exact Nat.le_of_ble_eq_true rfl | rfl | (simp; done) | (simp only [htf] at *; first | omega | (simp; omega))) ?_; conv => whnf))
  refine ⟨fun k vs => ∃ a : Nat, a ≤ ms.length ∧ (∀ a' < a, ∀ b < ms.length, (a' = b ∨ s.getD a' 0 ≠ s.getD b 0) ∧ dep ms a' b = dep ms (s.getD a' 0) (s.getD b 0)) ∧ vs = [.one (.ptr [i64 ms.length, .shd (ints (natI ms))]), .one (i64 a), .one (.shd (ints (natI s)))] ∧ k = ms.length - a, rfl, ⟨_, 0, by omega, by simp, rfl, rfl⟩, ?_⟩
  rintro k vs ⟨a, ha, ht, rfl, rfl⟩
  repeat (first | (refine opt_some (getC_rows rfl rfl (by omega)) ?_; conv => whnf) | (refine opt_some (by dsimp only; exact getC_lent rfl rfl (by omega)) ?_; conv => whnf) | (refine opt_some rfl ?_; conv => whnf) | (refine ⟨_, (by simp only [nf, nl, nm, en, ints, setC_setC, Nat.reduceAdd, Nat.reduceMul]; exact rfl), ?_⟩; conv => whnf) | (refine ⟨_, pick_at rfl (by first | omega | (simp only [plain_i64, plain_ints, plain_nil, all_ints]; done) | (dsimp only; omega) | exact Nat.le_of_ble_eq_true rfl | rfl | (simp; done) | (simp only [htf] at *; first | omega | (simp; omega))), ?_⟩; conv => whnf) | (refine ⟨_, rfl, ?_⟩; conv => whnf) | (first | refine iteP_true rfl ?_ | refine iteP_false rfl ?_ | refine iteP_true ‹_› ?_ | refine iteP_false ‹_› ?_; conv => whnf) | (refine And.intro (by kernel_rfl : indep _ _ = true) ?_; conv => whnf) | (refine And.intro (by rfl : List.all _ _ = true) ?_; conv => whnf) | (refine And.intro (by first | omega | (simp only [plain_i64, plain_ints, plain_nil, all_ints]; done) | (dsimp only; omega) | exact Nat.le_of_ble_eq_true rfl | rfl | (simp; done) | (simp only [htf] at *; first | omega | (simp; omega))) ?_; conv => whnf))
  refine iteP_intro (fun hb => ?_) (fun hb => ?_) <;> (conv => whnf)
  · have ha' : a < ms.length := by have := leT hb; omega
    repeat (first | (refine opt_some (getC_rows rfl rfl (by omega)) ?_; conv => whnf) | (refine opt_some (by dsimp only; exact getC_lent rfl rfl (by omega)) ?_; conv => whnf) | (refine opt_some rfl ?_; conv => whnf) | (refine ⟨_, (by simp only [nf, nl, nm, en, ints, setC_setC, Nat.reduceAdd, Nat.reduceMul]; exact rfl), ?_⟩; conv => whnf) | (refine ⟨_, pick_at rfl (by first | omega | (simp only [plain_i64, plain_ints, plain_nil, all_ints]; done) | (dsimp only; omega) | exact Nat.le_of_ble_eq_true rfl | rfl | (simp; done) | (simp only [htf] at *; first | omega | (simp; omega))), ?_⟩; conv => whnf) | (refine ⟨_, rfl, ?_⟩; conv => whnf) | (first | refine iteP_true rfl ?_ | refine iteP_false rfl ?_ | refine iteP_true ‹_› ?_ | refine iteP_false ‹_› ?_; conv => whnf) | (refine And.intro (by kernel_rfl : indep _ _ = true) ?_; conv => whnf) | (refine And.intro (by rfl : List.all _ _ = true) ?_; conv => whnf) | (refine And.intro (by first | omega | (simp only [plain_i64, plain_ints, plain_nil, all_ints]; done) | (dsimp only; omega) | exact Nat.le_of_ble_eq_true rfl | rfl | (simp; done) | (simp only [htf] at *; first | omega | (simp; omega))) ?_; conv => whnf))
    refine ⟨fun k vs => ∃ b : Nat, b ≤ ms.length ∧ (∀ b' < b, (a = b' ∨ s.getD a 0 ≠ s.getD b' 0) ∧ dep ms a b' = dep ms (s.getD a 0) (s.getD b' 0)) ∧ vs = [.one (.ptr [i64 ms.length, .shd (ints (natI ms))]), .one (i64 a), .one (i64 b), .one (.shd (ints (natI s)))] ∧ k = ms.length - b, rfl, ⟨_, 0, by omega, by simp, rfl, rfl⟩, ?_⟩
    rintro k vs ⟨b, hb1, hu, rfl, rfl⟩
    repeat (first | (refine opt_some (getC_rows rfl rfl (by omega)) ?_; conv => whnf) | (refine opt_some (by dsimp only; exact getC_lent rfl rfl (by omega)) ?_; conv => whnf) | (refine opt_some rfl ?_; conv => whnf) | (refine ⟨_, (by simp only [nf, nl, nm, en, ints, setC_setC, Nat.reduceAdd, Nat.reduceMul]; exact rfl), ?_⟩; conv => whnf) | (refine ⟨_, pick_at rfl (by first | omega | (simp only [plain_i64, plain_ints, plain_nil, all_ints]; done) | (dsimp only; omega) | exact Nat.le_of_ble_eq_true rfl | rfl | (simp; done) | (simp only [htf] at *; first | omega | (simp; omega))), ?_⟩; conv => whnf) | (refine ⟨_, rfl, ?_⟩; conv => whnf) | (first | refine iteP_true rfl ?_ | refine iteP_false rfl ?_ | refine iteP_true ‹_› ?_ | refine iteP_false ‹_› ?_; conv => whnf) | (refine And.intro (by kernel_rfl : indep _ _ = true) ?_; conv => whnf) | (refine And.intro (by rfl : List.all _ _ = true) ?_; conv => whnf) | (refine And.intro (by first | omega | (simp only [plain_i64, plain_ints, plain_nil, all_ints]; done) | (dsimp only; omega) | exact Nat.le_of_ble_eq_true rfl | rfl | (simp; done) | (simp only [htf] at *; first | omega | (simp; omega))) ?_; conv => whnf))
    refine iteP_intro (fun hb => ?_) (fun hb => ?_) <;> (conv => whnf)
    · have hb' : b < ms.length := by have := leT hb; omega
      have hga : (natI s)[a]'(by rw [hsn]; omega) = ((s.getD a 0 : Nat) : Int) := natI_getD (by omega)
      have hgb : (natI s)[b]'(by rw [hsn]; omega) = ((s.getD b 0 : Nat) : Int) := natI_getD (by omega)
      have hsa : s.getD a 0 < ms.length := wd_lt hs (by omega)
      have hsb : s.getD b 0 < ms.length := wd_lt hs (by omega)
      have hd1 : (ms.getD a 0).testBit b = dep ms a b := rfl
      have hd2 : (ms.getD (s.getD a 0) 0).testBit (s.getD b 0) = dep ms (s.getD a 0) (s.getD b 0) := rfl
      have hbad := symP_f (s := s) ha' hb'
      have hc1 := l02Dep_ret ms.length ms a b (by omega) (by omega) (by omega) hA.lt
      have hc2 := l02Dep_ret ms.length ms (s.getD a 0) (s.getD b 0) hsa (by omega) (by omega) hA.lt
      rw [hd1] at hc1
      rw [hd2] at hc2
      have hne : ((a : Int) != (b : Int)) = decide (a ≠ b) := by
        by_cases e : a = b
        · subst e; simp
        · rw [decide_eq_true e]; simp; omega
      have heq2 : (((s.getD a 0 : Nat) : Int) == ((s.getD b 0 : Nat) : Int)) = decide (s.getD a 0 = s.getD b 0) := by
        by_cases e : s.getD a 0 = s.getD b 0
        · rw [e]; simp
        · rw [decide_eq_false e]; exact beq_eq_false_iff_ne.2 (by omega)
      have key : ∀ q : Bool, (∀ b' < b, (a = b' ∨ s.getD a 0 ≠ s.getD b' 0) ∧ dep ms a b' = dep ms (s.getD a 0) (s.getD b' 0)) → (a = b ∨ s.getD a 0 ≠ s.getD b 0) → dep ms a b = q → dep ms (s.getD a 0) (s.getD b 0) = q → ∀ b' < b + 1, (a = b' ∨ s.getD a 0 ≠ s.getD b' 0) ∧ dep ms a b' = dep ms (s.getD a 0) (s.getD b' 0) := fun q h1 h2 h3 h4 b' hb'' => by
        rcases Nat.lt_succ_iff_lt_or_eq.1 hb'' with h | rfl
        · exact h1 b' h
        · exact ⟨h2, h3.trans h4.symm⟩
      by_cases e1 : a = b
      · subst e1
        have hne : ((a : Int) != (a : Int)) = false := by simp
        repeat (first | (refine opt_some (getC_rows rfl rfl (by omega)) ?_; conv => whnf) | (refine opt_some (by dsimp only; exact getC_lent rfl rfl (by omega)) ?_; conv => whnf) | (refine opt_some rfl ?_; conv => whnf) | (refine ⟨_, (by simp only [nf, nl, nm, en, ints, setC_setC, Nat.reduceAdd, Nat.reduceMul, hne]; exact rfl), ?_⟩; conv => whnf) | (refine ⟨_, pick_at rfl (by first | omega | (simp only [plain_i64, plain_ints, plain_nil, all_ints]; done) | (dsimp only; omega) | exact Nat.le_of_ble_eq_true rfl | rfl | (simp; done) | (simp only [htf] at *; first | omega | (simp; omega))), ?_⟩; conv => whnf) | (refine ⟨_, rfl, ?_⟩; conv => whnf) | (first | refine iteP_true rfl ?_ | refine iteP_false rfl ?_ | refine iteP_true ‹_› ?_ | refine iteP_false ‹_› ?_; conv => whnf) | (refine And.intro (by kernel_rfl : indep _ _ = true) ?_; conv => whnf) | (refine And.intro (by rfl : List.all _ _ = true) ?_; conv => whnf) | (refine And.intro (by first | omega | (simp only [plain_i64, plain_ints, plain_nil, all_ints]; done) | (dsimp only; omega) | exact Nat.le_of_ble_eq_true rfl | rfl | (simp; done) | (simp only [htf] at *; first | omega | (simp; omega))) ?_; conv => whnf))
        (refine ⟨_, hc1, ?_⟩; conv => whnf)
        repeat (first | (refine opt_some (getC_rows rfl rfl (by omega)) ?_; conv => whnf) | (refine opt_some (by dsimp only; exact getC_lent rfl rfl (by omega)) ?_; conv => whnf) | (refine opt_some rfl ?_; conv => whnf) | (refine ⟨_, (by simp only [nf, nl, nm, en, ints, setC_setC, Nat.reduceAdd, Nat.reduceMul, hga]; exact rfl), ?_⟩; conv => whnf) | (refine ⟨_, pick_at rfl (by first | omega | (simp only [plain_i64, plain_ints, plain_nil, all_ints]; done) | (dsimp only; omega) | exact Nat.le_of_ble_eq_true rfl | rfl | (simp; done) | (simp only [htf] at *; first | omega | (simp; omega))), ?_⟩; conv => whnf) | (refine ⟨_, rfl, ?_⟩; conv => whnf) | (first | refine iteP_true rfl ?_ | refine iteP_false rfl ?_ | refine iteP_true ‹_› ?_ | refine iteP_false ‹_› ?_; conv => whnf) | (refine And.intro (by kernel_rfl : indep _ _ = true) ?_; conv => whnf) | (refine And.intro (by rfl : List.all _ _ = true) ?_; conv => whnf) | (refine And.intro (by first | omega | (simp only [plain_i64, plain_ints, plain_nil, all_ints]; done) | (dsimp only; omega) | exact Nat.le_of_ble_eq_true rfl | rfl | (simp; done) | (simp only [htf] at *; first | omega | (simp; omega))) ?_; conv => whnf))
        (refine ⟨_, hc2, ?_⟩; conv => whnf)
        rw [hA.self a ha', hA.self _ hsa]
        repeat (first | (refine opt_some (getC_rows rfl rfl (by omega)) ?_; conv => whnf) | (refine opt_some (by dsimp only; exact getC_lent rfl rfl (by omega)) ?_; conv => whnf) | (refine opt_some rfl ?_; conv => whnf) | (refine ⟨_, (by simp only [nf, nl, nm, en, ints, setC_setC, Nat.reduceAdd, Nat.reduceMul]; exact rfl), ?_⟩; conv => whnf) | (refine ⟨_, pick_at rfl (by first | omega | (simp only [plain_i64, plain_ints, plain_nil, all_ints]; done) | (dsimp only; omega) | exact Nat.le_of_ble_eq_true rfl | rfl | (simp; done) | (simp only [htf] at *; first | omega | (simp; omega))), ?_⟩; conv => whnf) | (refine ⟨_, rfl, ?_⟩; conv => whnf) | (first | refine iteP_true rfl ?_ | refine iteP_false rfl ?_ | refine iteP_true ‹_› ?_ | refine iteP_false ‹_› ?_; conv => whnf) | (refine And.intro (by kernel_rfl : indep _ _ = true) ?_; conv => whnf) | (refine And.intro (by rfl : List.all _ _ = true) ?_; conv => whnf) | (refine And.intro (by first | omega | (simp only [plain_i64, plain_ints, plain_nil, all_ints]; done) | (dsimp only; omega) | exact Nat.le_of_ble_eq_true rfl | rfl | (simp; done) | (simp only [htf] at *; first | omega | (simp; omega))) ?_; conv => whnf))
        refine ⟨_, ?_, a + 1, ha', key true hu (.inl rfl) (hA.self a ha') (hA.self _ hsa), ?_, rfl⟩
        · omega
        · rw [wrap_succ (by omega)]
          rfl
      · rw [decide_eq_true e1] at hne
        by_cases e2 : s.getD a 0 = s.getD b 0
        · rw [decide_eq_true e2] at heq2
          repeat (first | (refine opt_some (getC_rows rfl rfl (by omega)) ?_; conv => whnf) | (refine opt_some (by dsimp only; exact getC_lent rfl rfl (by omega)) ?_; conv => whnf) | (refine opt_some rfl ?_; conv => whnf) | (refine ⟨_, (by simp only [nf, nl, nm, en, ints, setC_setC, Nat.reduceAdd, Nat.reduceMul, hga, hgb, hne, heq2]; exact rfl), ?_⟩; conv => whnf) | (refine ⟨_, pick_at rfl (by first | omega | (simp only [plain_i64, plain_ints, plain_nil, all_ints]; done) | (dsimp only; omega) | exact Nat.le_of_ble_eq_true rfl | rfl | (simp; done) | (simp only [htf] at *; first | omega | (simp; omega))), ?_⟩; conv => whnf) | (refine ⟨_, rfl, ?_⟩; conv => whnf) | (first | refine iteP_true rfl ?_ | refine iteP_false rfl ?_ | refine iteP_true ‹_› ?_ | refine iteP_false ‹_› ?_; conv => whnf) | (refine And.intro (by kernel_rfl : indep _ _ = true) ?_; conv => whnf) | (refine And.intro (by rfl : List.all _ _ = true) ?_; conv => whnf) | (refine And.intro (by first | omega | (simp only [plain_i64, plain_ints, plain_nil, all_ints]; done) | (dsimp only; omega) | exact Nat.le_of_ble_eq_true rfl | rfl | (simp; done) | (simp only [htf] at *; first | omega | (simp; omega))) ?_; conv => whnf))
          refine endB ?_
          rw [hbad fun h => h.1.elim e1 fun h => h e2]
        · rw [decide_eq_false e2] at heq2
          repeat (first | (refine opt_some (getC_rows rfl rfl (by omega)) ?_; conv => whnf) | (refine opt_some (by dsimp only; exact getC_lent rfl rfl (by omega)) ?_; conv => whnf) | (refine opt_some rfl ?_; conv => whnf) | (refine ⟨_, (by simp only [nf, nl, nm, en, ints, setC_setC, Nat.reduceAdd, Nat.reduceMul, hga, hgb, hne, heq2]; exact rfl), ?_⟩; conv => whnf) | (refine ⟨_, pick_at rfl (by first | omega | (simp only [plain_i64, plain_ints, plain_nil, all_ints]; done) | (dsimp only; omega) | exact Nat.le_of_ble_eq_true rfl | rfl | (simp; done) | (simp only [htf] at *; first | omega | (simp; omega))), ?_⟩; conv => whnf) | (refine ⟨_, rfl, ?_⟩; conv => whnf) | (first | refine iteP_true rfl ?_ | refine iteP_false rfl ?_ | refine iteP_true ‹_› ?_ | refine iteP_false ‹_› ?_; conv => whnf) | (refine And.intro (by kernel_rfl : indep _ _ = true) ?_; conv => whnf) | (refine And.intro (by rfl : List.all _ _ = true) ?_; conv => whnf) | (refine And.intro (by first | omega | (simp only [plain_i64, plain_ints, plain_nil, all_ints]; done) | (dsimp only; omega) | exact Nat.le_of_ble_eq_true rfl | rfl | (simp; done) | (simp only [htf] at *; first | omega | (simp; omega))) ?_; conv => whnf))
          (refine ⟨_, hc1, ?_⟩; conv => whnf)
          repeat (first | (refine opt_some (getC_rows rfl rfl (by omega)) ?_; conv => whnf) | (refine opt_some (by dsimp only; exact getC_lent rfl rfl (by omega)) ?_; conv => whnf) | (refine opt_some rfl ?_; conv => whnf) | (refine ⟨_, (by simp only [nf, nl, nm, en, ints, setC_setC, Nat.reduceAdd, Nat.reduceMul, hga, hgb]; exact rfl), ?_⟩; conv => whnf) | (refine ⟨_, pick_at rfl (by first | omega | (simp only [plain_i64, plain_ints, plain_nil, all_ints]; done) | (dsimp only; omega) | exact Nat.le_of_ble_eq_true rfl | rfl | (simp; done) | (simp only [htf] at *; first | omega | (simp; omega))), ?_⟩; conv => whnf) | (refine ⟨_, rfl, ?_⟩; conv => whnf) | (first | refine iteP_true rfl ?_ | refine iteP_false rfl ?_ | refine iteP_true ‹_› ?_ | refine iteP_false ‹_› ?_; conv => whnf) | (refine And.intro (by kernel_rfl : indep _ _ = true) ?_; conv => whnf) | (refine And.intro (by rfl : List.all _ _ = true) ?_; conv => whnf) | (refine And.intro (by first | omega | (simp only [plain_i64, plain_ints, plain_nil, all_ints]; done) | (dsimp only; omega) | exact Nat.le_of_ble_eq_true rfl | rfl | (simp; done) | (simp only [htf] at *; first | omega | (simp; omega))) ?_; conv => whnf))
          (refine ⟨_, hc2, ?_⟩; conv => whnf)
          by_cases e3 : dep ms a b = dep ms (s.getD a 0) (s.getD b 0)
          · have hnn : (dep ms a b != dep ms (s.getD a 0) (s.getD b 0)) = false := by rw [e3]; simp
            repeat (first | (refine opt_some (getC_rows rfl rfl (by omega)) ?_; conv => whnf) | (refine opt_some (by dsimp only; exact getC_lent rfl rfl (by omega)) ?_; conv => whnf) | (refine opt_some rfl ?_; conv => whnf) | (refine ⟨_, (by simp only [nf, nl, nm, en, ints, setC_setC, Nat.reduceAdd, Nat.reduceMul, hnn]; exact rfl), ?_⟩; conv => whnf) | (refine ⟨_, pick_at rfl (by first | omega | (simp only [plain_i64, plain_ints, plain_nil, all_ints]; done) | (dsimp only; omega) | exact Nat.le_of_ble_eq_true rfl | rfl | (simp; done) | (simp only [htf] at *; first | omega | (simp; omega))), ?_⟩; conv => whnf) | (refine ⟨_, rfl, ?_⟩; conv => whnf) | (first | refine iteP_true rfl ?_ | refine iteP_false rfl ?_ | refine iteP_true ‹_› ?_ | refine iteP_false ‹_› ?_; conv => whnf) | (refine And.intro (by kernel_rfl : indep _ _ = true) ?_; conv => whnf) | (refine And.intro (by rfl : List.all _ _ = true) ?_; conv => whnf) | (refine And.intro (by first | omega | (simp only [plain_i64, plain_ints, plain_nil, all_ints]; done) | (dsimp only; omega) | exact Nat.le_of_ble_eq_true rfl | rfl | (simp; done) | (simp only [htf] at *; first | omega | (simp; omega))) ?_; conv => whnf))
            refine ⟨_, ?_, b + 1, hb', key _ hu (.inr e2) rfl e3.symm, ?_, rfl⟩
            · omega
            · rw [wrap_succ (by omega)]
              rfl
          · have hnn : (dep ms a b != dep ms (s.getD a 0) (s.getD b 0)) = true := by simpa using e3
            repeat (first | (refine opt_some (getC_rows rfl rfl (by omega)) ?_; conv => whnf) | (refine opt_some (by dsimp only; exact getC_lent rfl rfl (by omega)) ?_; conv => whnf) | (refine opt_some rfl ?_; conv => whnf) | (refine ⟨_, (by simp only [nf, nl, nm, en, ints, setC_setC, Nat.reduceAdd, Nat.reduceMul, hnn]; exact rfl), ?_⟩; conv => whnf) | (refine ⟨_, pick_at rfl (by first | omega | (simp only [plain_i64, plain_ints, plain_nil, all_ints]; done) | (dsimp only; omega) | exact Nat.le_of_ble_eq_true rfl | rfl | (simp; done) | (simp only [htf] at *; first | omega | (simp; omega))), ?_⟩; conv => whnf) | (refine ⟨_, rfl, ?_⟩; conv => whnf) | (first | refine iteP_true rfl ?_ | refine iteP_false rfl ?_ | refine iteP_true ‹_› ?_ | refine iteP_false ‹_› ?_; conv => whnf) | (refine And.intro (by kernel_rfl : indep _ _ = true) ?_; conv => whnf) | (refine And.intro (by rfl : List.all _ _ = true) ?_; conv => whnf) | (refine And.intro (by first | omega | (simp only [plain_i64, plain_ints, plain_nil, all_ints]; done) | (dsimp only; omega) | exact Nat.le_of_ble_eq_true rfl | rfl | (simp; done) | (simp only [htf] at *; first | omega | (simp; omega))) ?_; conv => whnf))
            refine endB ?_
            rw [hbad fun h => e3 h.2]
    · obtain rfl : b = ms.length := by have := leF hb; omega
      repeat (first | (refine opt_some (getC_rows rfl rfl (by omega)) ?_; conv => whnf) | (refine opt_some (by dsimp only; exact getC_lent rfl rfl (by omega)) ?_; conv => whnf) | (refine opt_some rfl ?_; conv => whnf) | (refine ⟨_, (by simp only [nf, nl, nm, en, ints, setC_setC, Nat.reduceAdd, Nat.reduceMul]; exact rfl), ?_⟩; conv => whnf) | (refine ⟨_, pick_at rfl (by first | omega | (simp only [plain_i64, plain_ints, plain_nil, all_ints]; done) | (dsimp only; omega) | exact Nat.le_of_ble_eq_true rfl | rfl | (simp; done) | (simp only [htf] at *; first | omega | (simp; omega))), ?_⟩; conv => whnf) | (refine ⟨_, rfl, ?_⟩; conv => whnf) | (first | refine iteP_true rfl ?_ | refine iteP_false rfl ?_ | refine iteP_true ‹_› ?_ | refine iteP_false ‹_› ?_; conv => whnf) | (refine And.intro (by kernel_rfl : indep _ _ = true) ?_; conv => whnf) | (refine And.intro (by rfl : List.all _ _ = true) ?_; conv => whnf) | (refine And.intro (by first | omega | (simp only [plain_i64, plain_ints, plain_nil, all_ints]; done) | (dsimp only; omega) | exact Nat.le_of_ble_eq_true rfl | rfl | (simp; done) | (simp only [htf] at *; first | omega | (simp; omega))) ?_; conv => whnf))
      refine ⟨_, ?_, a + 1, ha', fun a' ha'' => ?_, ?_, rfl⟩
      · omega
      · rcases Nat.lt_succ_iff_lt_or_eq.1 ha'' with h | rfl
        · exact ht a' h
        · exact hu
      · rw [wrap_succ (by omega)]
        rfl
  · obtain rfl : a = ms.length := by have := leF hb; omega
    repeat' (first | (refine opt_some (getC_rows rfl rfl (by omega)) ?_; conv => whnf) | (refine opt_some (by dsimp only; exact getC_lent rfl rfl (by omega)) ?_; conv => whnf) | (refine opt_some rfl ?_; conv => whnf) | (refine ⟨_, (by simp only [nf, nl, nm, en, ints, setC_setC, Nat.reduceAdd, Nat.reduceMul]; exact rfl), ?_⟩; conv => whnf) | (refine ⟨_, pick_at rfl (by first | omega | (simp only [plain_i64, plain_ints, plain_nil, all_ints]; done) | (dsimp only; omega) | exact Nat.le_of_ble_eq_true rfl | rfl | (simp; done) | (simp only [htf] at *; first | omega | (simp; omega))), ?_⟩; conv => whnf) | (refine ⟨_, rfl, ?_⟩; conv => whnf) | (first | refine iteP_true rfl ?_ | refine iteP_false rfl ?_ | refine iteP_true ‹_› ?_ | refine iteP_false ‹_› ?_; conv => whnf) | (refine And.intro (by kernel_rfl : indep _ _ = true) ?_; conv => whnf) | (refine And.intro (by rfl : List.all _ _ = true) ?_; conv => whnf) | (refine And.intro (by first | omega | (simp only [plain_i64, plain_ints, plain_nil, all_ints]; done) | (dsimp only; omega) | exact Nat.le_of_ble_eq_true rfl | rfl | (simp; done) | (simp only [htf] at *; first | omega | (simp; omega))) ?_; conv => whnf) | (refine iteP_intro (fun hb => ?_) (fun hb => ?_) <;> (conv => whnf)))
    refine endB ?_
    rw [symP_of ht]
    exact decide_eq_true (by omega)
/-- The letters of a word replaced. -/
def trnN (s w : List Nat) : List Nat := w.map fun a => s.getD a 0
theorem trnN_length (s w : List Nat) : (trnN s w).length = w.length := List.length_map _
theorem trnN_succ {s w : List Nat} {i : Nat} (h : i < w.length) : trnN s (w.take (i + 1)) = trnN s (w.take i) ++ [s.getD (w.getD i 0) 0] := by
  rw [take_succ_getD h]
  simp [trnN]
theorem trnN_wd {ms s w : List Nat} (hs : ∀ a ∈ s, a < ms.length) (hw : ∀ c ∈ w, c < s.length) : Wd ms (trnN s w) := fun c hc => by
  obtain ⟨a, ha, rfl⟩ := List.mem_map.1 hc
  exact wd_lt hs (hw a ha)
set_option maxHeartbeats 4000000 in
set_option maxRecDepth 100000 in
theorem exchanged_ret (s w : List Nat) (hw : ∀ c ∈ w, c < s.length) (hl : w.length ≤ 2 ^ 40) : Ret Tryd.prog G0 84 [⟨.ro, .one (ints (natI s))⟩, ⟨.ro, .one (ints (natI w))⟩] ⟨.one (ints (natI (trnN s w))), []⟩ := by
  have hwl := natI_length w
  have hsn := natI_length s
  (refine ret_of_den (E := en 24 [] (fun _ => [(5, 0), (10, 0), (11, 0), (0, 1), (9, 1)]) (fun _ => [])) tt_ok mixed Tryd.func84 rfl rfl rfl rfl ?_; refine ⟨by simp, ?_⟩)
  repeat (first | (refine opt_some (getC_rows rfl rfl (by omega)) ?_; conv => whnf) | (refine opt_some (by dsimp only; exact getC_lent rfl rfl (by omega)) ?_; conv => whnf) | (refine opt_some rfl ?_; conv => whnf) | (refine ⟨_, (by simp only [nf, nl, nm, en, ints, setC_setC, Nat.reduceAdd, Nat.reduceMul]; exact rfl), ?_⟩; conv => whnf) | (refine ⟨_, pick_at rfl (by first | omega | (simp only [plain_i64, plain_ints, plain_nil, all_ints]; done) | (dsimp only; omega) | exact Nat.le_of_ble_eq_true rfl | rfl | (simp; done) | (simp only [htf] at *; first | omega | (simp; omega))), ?_⟩; conv => whnf) | (refine ⟨_, rfl, ?_⟩; conv => whnf) | (first | refine iteP_true rfl ?_ | refine iteP_false rfl ?_ | refine iteP_true ‹_› ?_ | refine iteP_false ‹_› ?_; conv => whnf) | (refine And.intro (by kernel_rfl : indep _ _ = true) ?_; conv => whnf) | (refine And.intro (by rfl : List.all _ _ = true) ?_; conv => whnf) | (refine And.intro (by first | omega | (simp only [plain_i64, plain_ints, plain_nil, all_ints]; done) | (dsimp only; omega) | exact Nat.le_of_ble_eq_true rfl | rfl | (simp; done) | (simp only [htf] at *; first | omega | (simp; omega))) ?_; conv => whnf))
  refine ⟨fun k vs => ∃ i : Nat, i ≤ w.length ∧ vs = [.one (ints (natI (trnN s (w.take i)))), .one (i64 w.length), .one (i64 i), .one (.shd (ints (natI s))), .one (.shd (ints (natI w)))] ∧ k = w.length - i, rfl, ⟨_, 0, by omega, ?_, rfl⟩, ?_⟩
  · rw [← hwl]
    rfl
  rintro k vs ⟨i, hi', rfl, rfl⟩
  have htl : (trnN s (w.take i)).length ≤ 2 ^ 40 := by rw [trnN_length, List.length_take]; omega
  have hnl := natI_length (trnN s (w.take i))
  repeat (first | (refine opt_some (getC_rows rfl rfl (by omega)) ?_; conv => whnf) | (refine opt_some (by dsimp only; exact getC_lent rfl rfl (by omega)) ?_; conv => whnf) | (refine opt_some rfl ?_; conv => whnf) | (refine ⟨_, (by simp only [nf, nl, nm, en, ints, setC_setC, Nat.reduceAdd, Nat.reduceMul]; exact rfl), ?_⟩; conv => whnf) | (refine ⟨_, pick_at rfl (by first | omega | (simp only [plain_i64, plain_ints, plain_nil, all_ints]; done) | (dsimp only; omega) | exact Nat.le_of_ble_eq_true rfl | rfl | (simp; done) | (simp only [htf] at *; first | omega | (simp; omega))), ?_⟩; conv => whnf) | (refine ⟨_, rfl, ?_⟩; conv => whnf) | (first | refine iteP_true rfl ?_ | refine iteP_false rfl ?_ | refine iteP_true ‹_› ?_ | refine iteP_false ‹_› ?_; conv => whnf) | (refine And.intro (by kernel_rfl : indep _ _ = true) ?_; conv => whnf) | (refine And.intro (by rfl : List.all _ _ = true) ?_; conv => whnf) | (refine And.intro (by first | omega | (simp only [plain_i64, plain_ints, plain_nil, all_ints]; done) | (dsimp only; omega) | exact Nat.le_of_ble_eq_true rfl | rfl | (simp; done) | (simp only [htf] at *; first | omega | (simp; omega))) ?_; conv => whnf))
  refine iteP_intro (fun hb => ?_) (fun hb => ?_) <;> (conv => whnf)
  · have hi'' : i < w.length := by have := leT hb; omega
    have hg : (natI w)[i]'(by rw [hwl]; exact hi'') = ((w.getD i 0 : Nat) : Int) := natI_getD hi''
    have hc : w.getD i 0 < s.length := by
      rw [List.getD_eq_getElem?_getD, List.getElem?_eq_getElem hi'', Option.getD_some]
      exact hw _ (List.getElem_mem hi'')
    have hsu := trnN_succ (s := s) hi''
    generalize w.getD i 0 = a at hg hc hsu
    have hga : (natI s)[a]'(by rw [hsn]; exact hc) = ((s.getD a 0 : Nat) : Int) := natI_getD hc
    repeat (first | (refine opt_some (getC_rows rfl rfl (by omega)) ?_; conv => whnf) | (refine opt_some (by dsimp only; exact getC_lent rfl rfl (by omega)) ?_; conv => whnf) | (refine opt_some rfl ?_; conv => whnf) | (refine ⟨_, (by simp only [nf, nl, nm, en, ints, setC_setC, Nat.reduceAdd, Nat.reduceMul, hg, hga]; exact rfl), ?_⟩; conv => whnf) | (refine ⟨_, pick_at rfl (by first | omega | (simp only [plain_i64, plain_ints, plain_nil, all_ints]; done) | (dsimp only; omega) | exact Nat.le_of_ble_eq_true rfl | rfl | (simp; done) | (simp only [htf] at *; first | omega | (simp; omega))), ?_⟩; conv => whnf) | (refine ⟨_, rfl, ?_⟩; conv => whnf) | (first | refine iteP_true rfl ?_ | refine iteP_false rfl ?_ | refine iteP_true ‹_› ?_ | refine iteP_false ‹_› ?_; conv => whnf) | (refine And.intro (by kernel_rfl : indep _ _ = true) ?_; conv => whnf) | (refine And.intro (by rfl : List.all _ _ = true) ?_; conv => whnf) | (refine And.intro (by first | omega | (simp only [plain_i64, plain_ints, plain_nil, all_ints]; done) | (dsimp only; omega) | exact Nat.le_of_ble_eq_true rfl | rfl | (simp; done) | (simp only [htf] at *; first | omega | (simp; omega))) ?_; conv => whnf))
    refine ⟨_, ?_, i + 1, hi'', ?_, rfl⟩
    · omega
    · rw [wrap_succ (by omega), hsu, ints_natI_snoc]
      rfl
  · obtain rfl : i = w.length := by have := leF hb; omega
    rw [List.take_length]
    repeat' (first | (refine opt_some (getC_rows rfl rfl (by omega)) ?_; conv => whnf) | (refine opt_some (by dsimp only; exact getC_lent rfl rfl (by omega)) ?_; conv => whnf) | (refine opt_some rfl ?_; conv => whnf) | (refine ⟨_, (by simp only [nf, nl, nm, en, ints, setC_setC, Nat.reduceAdd, Nat.reduceMul]; exact rfl), ?_⟩; conv => whnf) | (refine ⟨_, pick_at rfl (by first | omega | (simp only [plain_i64, plain_ints, plain_nil, all_ints]; done) | (dsimp only; omega) | exact Nat.le_of_ble_eq_true rfl | rfl | (simp; done) | (simp only [htf] at *; first | omega | (simp; omega))), ?_⟩; conv => whnf) | (refine ⟨_, rfl, ?_⟩; conv => whnf) | (first | refine iteP_true rfl ?_ | refine iteP_false rfl ?_ | refine iteP_true ‹_› ?_ | refine iteP_false ‹_› ?_; conv => whnf) | (refine And.intro (by kernel_rfl : indep _ _ = true) ?_; conv => whnf) | (refine And.intro (by rfl : List.all _ _ = true) ?_; conv => whnf) | (refine And.intro (by first | omega | (simp only [plain_i64, plain_ints, plain_nil, all_ints]; done) | (dsimp only; omega) | exact Nat.le_of_ble_eq_true rfl | rfl | (simp; done) | (simp only [htf] at *; first | omega | (simp; omega))) ?_; conv => whnf) | (refine iteP_intro (fun hb => ?_) (fun hb => ?_) <;> (conv => whnf)))
    rfl
set_option maxHeartbeats 4000000 in
set_option maxRecDepth 100000 in
theorem l08Turn_ret (s w : List Nat) (hw : ∀ c ∈ w, c < s.length) (hl : w.length ≤ 2 ^ 40) : Ret Tryd.prog G0 77 [⟨.ro, .one (ints (natI s))⟩, ⟨.ro, .one (ints (natI w))⟩] ⟨.one (ints (natI (trnN s w))), []⟩ := by
  have hwl := natI_length w
  have hsn := natI_length s
  (refine ret_of_den (E := en 25 [] (fun _ => [(5, 0), (6, 0), (0, 1), (1, 1)]) (fun _ => [])) tt_ok mixed Tryd.func77 rfl rfl rfl rfl ?_; refine ⟨by simp, ?_⟩)
  repeat (first | (refine opt_some (getC_rows rfl rfl (by omega)) ?_; conv => whnf) | (refine opt_some (by dsimp only; exact getC_lent rfl rfl (by omega)) ?_; conv => whnf) | (refine opt_some rfl ?_; conv => whnf) | (refine ⟨_, (by simp only [nf, nl, nm, en, ints, setC_setC, Nat.reduceAdd, Nat.reduceMul]; exact rfl), ?_⟩; conv => whnf) | (refine ⟨_, pick_at rfl (by first | omega | (simp only [plain_i64, plain_ints, plain_nil, all_ints]; done) | (dsimp only; omega) | exact Nat.le_of_ble_eq_true rfl | rfl | (simp; done) | (simp only [htf] at *; first | omega | (simp; omega))), ?_⟩; conv => whnf) | (refine ⟨_, rfl, ?_⟩; conv => whnf) | (first | refine iteP_true rfl ?_ | refine iteP_false rfl ?_ | refine iteP_true ‹_› ?_ | refine iteP_false ‹_› ?_; conv => whnf) | (refine And.intro (by kernel_rfl : indep _ _ = true) ?_; conv => whnf) | (refine And.intro (by rfl : List.all _ _ = true) ?_; conv => whnf) | (refine And.intro (by first | omega | (simp only [plain_i64, plain_ints, plain_nil, all_ints]; done) | (dsimp only; omega) | exact Nat.le_of_ble_eq_true rfl | rfl | (simp; done) | (simp only [htf] at *; first | omega | (simp; omega))) ?_; conv => whnf))
  refine ⟨fun k vs => ∃ i : Nat, i ≤ w.length ∧ vs = [.one (ints (natI (trnN s (w.take i)))), .one (i64 i), .one (.shd (ints (natI s))), .one (.shd (ints (natI w)))] ∧ k = w.length - i, rfl, ⟨_, 0, by omega, rfl, rfl⟩, ?_⟩
  rintro k vs ⟨i, hi', rfl, rfl⟩
  have htl : (trnN s (w.take i)).length ≤ 2 ^ 40 := by rw [trnN_length, List.length_take]; omega
  have hnl := natI_length (trnN s (w.take i))
  repeat (first | (refine opt_some (getC_rows rfl rfl (by omega)) ?_; conv => whnf) | (refine opt_some (by dsimp only; exact getC_lent rfl rfl (by omega)) ?_; conv => whnf) | (refine opt_some rfl ?_; conv => whnf) | (refine ⟨_, (by simp only [nf, nl, nm, en, ints, setC_setC, Nat.reduceAdd, Nat.reduceMul]; exact rfl), ?_⟩; conv => whnf) | (refine ⟨_, pick_at rfl (by first | omega | (simp only [plain_i64, plain_ints, plain_nil, all_ints]; done) | (dsimp only; omega) | exact Nat.le_of_ble_eq_true rfl | rfl | (simp; done) | (simp only [htf] at *; first | omega | (simp; omega))), ?_⟩; conv => whnf) | (refine ⟨_, rfl, ?_⟩; conv => whnf) | (first | refine iteP_true rfl ?_ | refine iteP_false rfl ?_ | refine iteP_true ‹_› ?_ | refine iteP_false ‹_› ?_; conv => whnf) | (refine And.intro (by kernel_rfl : indep _ _ = true) ?_; conv => whnf) | (refine And.intro (by rfl : List.all _ _ = true) ?_; conv => whnf) | (refine And.intro (by first | omega | (simp only [plain_i64, plain_ints, plain_nil, all_ints]; done) | (dsimp only; omega) | exact Nat.le_of_ble_eq_true rfl | rfl | (simp; done) | (simp only [htf] at *; first | omega | (simp; omega))) ?_; conv => whnf))
  refine iteP_intro (fun hb => ?_) (fun hb => ?_) <;> (conv => whnf)
  · have hi'' : i < w.length := by have := leT hb; omega
    have hg : (natI w)[i]'(by rw [hwl]; exact hi'') = ((w.getD i 0 : Nat) : Int) := natI_getD hi''
    have hc : w.getD i 0 < s.length := by
      rw [List.getD_eq_getElem?_getD, List.getElem?_eq_getElem hi'', Option.getD_some]
      exact hw _ (List.getElem_mem hi'')
    have hsu := trnN_succ (s := s) hi''
    generalize w.getD i 0 = a at hg hc hsu
    have hga : (natI s)[a]'(by rw [hsn]; exact hc) = ((s.getD a 0 : Nat) : Int) := natI_getD hc
    repeat (first | (refine opt_some (getC_rows rfl rfl (by omega)) ?_; conv => whnf) | (refine opt_some (by dsimp only; exact getC_lent rfl rfl (by omega)) ?_; conv => whnf) | (refine opt_some rfl ?_; conv => whnf) | (refine ⟨_, (by simp only [nf, nl, nm, en, ints, setC_setC, Nat.reduceAdd, Nat.reduceMul, hg, hga]; exact rfl), ?_⟩; conv => whnf) | (refine ⟨_, pick_at rfl (by first | omega | (simp only [plain_i64, plain_ints, plain_nil, all_ints]; done) | (dsimp only; omega) | exact Nat.le_of_ble_eq_true rfl | rfl | (simp; done) | (simp only [htf] at *; first | omega | (simp; omega))), ?_⟩; conv => whnf) | (refine ⟨_, rfl, ?_⟩; conv => whnf) | (first | refine iteP_true rfl ?_ | refine iteP_false rfl ?_ | refine iteP_true ‹_› ?_ | refine iteP_false ‹_› ?_; conv => whnf) | (refine And.intro (by kernel_rfl : indep _ _ = true) ?_; conv => whnf) | (refine And.intro (by rfl : List.all _ _ = true) ?_; conv => whnf) | (refine And.intro (by first | omega | (simp only [plain_i64, plain_ints, plain_nil, all_ints]; done) | (dsimp only; omega) | exact Nat.le_of_ble_eq_true rfl | rfl | (simp; done) | (simp only [htf] at *; first | omega | (simp; omega))) ?_; conv => whnf))
    refine ⟨_, ?_, i + 1, hi'', ?_, rfl⟩
    · omega
    · rw [wrap_succ (by omega), hsu, ints_natI_snoc]
      rfl
  · obtain rfl : i = w.length := by have := leF hb; omega
    rw [List.take_length]
    repeat' (first | (refine opt_some (getC_rows rfl rfl (by omega)) ?_; conv => whnf) | (refine opt_some (by dsimp only; exact getC_lent rfl rfl (by omega)) ?_; conv => whnf) | (refine opt_some rfl ?_; conv => whnf) | (refine ⟨_, (by simp only [nf, nl, nm, en, ints, setC_setC, Nat.reduceAdd, Nat.reduceMul]; exact rfl), ?_⟩; conv => whnf) | (refine ⟨_, pick_at rfl (by first | omega | (simp only [plain_i64, plain_ints, plain_nil, all_ints]; done) | (dsimp only; omega) | exact Nat.le_of_ble_eq_true rfl | rfl | (simp; done) | (simp only [htf] at *; first | omega | (simp; omega))), ?_⟩; conv => whnf) | (refine ⟨_, rfl, ?_⟩; conv => whnf) | (first | refine iteP_true rfl ?_ | refine iteP_false rfl ?_ | refine iteP_true ‹_› ?_ | refine iteP_false ‹_› ?_; conv => whnf) | (refine And.intro (by kernel_rfl : indep _ _ = true) ?_; conv => whnf) | (refine And.intro (by rfl : List.all _ _ = true) ?_; conv => whnf) | (refine And.intro (by first | omega | (simp only [plain_i64, plain_ints, plain_nil, all_ints]; done) | (dsimp only; omega) | exact Nat.le_of_ble_eq_true rfl | rfl | (simp; done) | (simp only [htf] at *; first | omega | (simp; omega))) ?_; conv => whnf) | (refine iteP_intro (fun hb => ?_) (fun hb => ?_) <;> (conv => whnf)))
    rfl
/-- What ApplySymmetry answers. -/
def appR (n : Int) (ds ss xs : List Int) : List Nat × Int :=
  if alphaOk n ds then (if decide ((ss.length : Int) = n) && wordN n ss && wordN n xs then (if symP (ds.map Int.toNat) (ss.map Int.toNat) then (nform (ds.map Int.toNat) (trnN (ss.map Int.toNat) (xs.map Int.toNat)), 0) else ([], 5)) else ([], 2)) else ([], 1)
section
variable {n : Int} {ds ss xs : List Int}
theorem appR_1 (h : alphaOk n ds = false) : appR n ds ss xs = ([], 1) := by
  unfold appR
  rw [if_neg (by rw [h]; simp)]
theorem appR_2 (h1 : alphaOk n ds = true) (h : (decide ((ss.length : Int) = n) && wordN n ss && wordN n xs) = false) : appR n ds ss xs = ([], 2) := by
  unfold appR
  rw [if_pos h1, if_neg (by rw [h]; simp)]
theorem appR_3 (h1 : alphaOk n ds = true) (h : (decide ((ss.length : Int) = n) && wordN n ss && wordN n xs) = true) {ms s w : List Nat} (e1 : ds.map Int.toNat = ms) (e2 : ss.map Int.toNat = s) (e3 : xs.map Int.toNat = w) :
    appR n ds ss xs = if symP ms s then (nform ms (trnN s w), 0) else ([], 5) := by
  unfold appR
  rw [if_pos h1, if_pos h, e1, e2, e3]
end
theorem appR_nz {n : Int} {ds ss xs : List Int} (h : (appR n ds ss xs).2 ≠ 0) : (appR n ds ss xs).1 = [] := by
  unfold appR at h ⊢
  split
  · rename_i h1
    rw [if_pos h1] at h
    split
    · rename_i h2
      rw [if_pos h2] at h
      split
      · rename_i h3
        rw [if_pos h3] at h
        exact absurd rfl h
      · rfl
    · rfl
  · rfl
theorem ints_nil_le {w : List Nat} (h : w = []) : OLe nilS (ints (natI w)) := by subst h; exact .nil _ _
theorem appR_le (n : Int) (ds ss xs : List Int) : (appR n ds ss xs).2 ≠ 0 → OLe nilS (ints (natI (appR n ds ss xs).1)) := fun h => ints_nil_le (appR_nz h)
/-- What is given to a symmetry that is valid. -/
theorem app_ok {n : Int} {ds ss xs : List Int} (h1 : alphaOk n ds = true) (h : (decide ((ss.length : Int) = n) && wordN n ss && wordN n xs) = true) : ∃ ms s w : List Nat, ds.map Int.toNat = ms ∧ ss.map Int.toNat = s ∧ xs.map Int.toNat = w ∧ n = ms.length ∧ ds = natI ms ∧ ms.length ≤ 8 ∧ Alpha ms ∧ ss = natI s ∧ s.length = ms.length ∧ (∀ a ∈ s, a < ms.length) ∧ xs = natI w ∧ w.length ≤ 24 ∧ (∀ c ∈ w, c < s.length) := by
  rw [Bool.and_eq_true, Bool.and_eq_true, decide_eq_true_eq] at h
  obtain ⟨⟨h2, h3⟩, h4⟩ := h
  obtain ⟨ms, e1, rfl, rfl, hl1, hA⟩ := alpha_ok h1
  obtain ⟨s, e2, rfl, hsl, hsd⟩ := word_nat h3
  obtain ⟨w, e3, rfl, hwl, hwd⟩ := word_nat h4
  rw [natI_length] at h2
  exact ⟨ms, s, w, e1, e2, e3, rfl, rfl, hl1, hA, rfl, by omega, word_wd hsd, rfl, hwl, fun c hc => by have := hwd c hc; omega⟩
theorem appR_len (n : Int) (ds ss xs : List Int) : (natI (appR n ds ss xs).1).length ≤ 24 := by
  rw [natI_length]
  cases h1 : alphaOk n ds with
  | false => rw [appR_1 h1]; simp
  | true =>
    cases h : (decide ((ss.length : Int) = n) && wordN n ss && wordN n xs) with
    | false => rw [appR_2 h1 h]; simp
    | true =>
      obtain ⟨ms, s, w, e1, e2, e3, rfl, rfl, hl1, hA, rfl, hsl, hs, rfl, hwl, hw⟩ := app_ok h1 h
      rw [appR_3 h1 h e1 e2 e3]
      split
      · dsimp only
        rw [nform_length hA (trnN_wd hs hw), trnN_length]
        exact hwl
      · simp
end Go.Proofs.YtljhmkkmcbfffaaDoor
