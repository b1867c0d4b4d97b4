import Derived.Test.YtpopepcmfanegaaDoorFn
set_option autoImplicit false
set_option linter.unusedSimpArgs false
set_option linter.unusedVariables false
namespace Go.Proofs.YtpopepcmfanegaaDoor
open Go.Den
set_option maxHeartbeats 4000000 in
set_option maxRecDepth 100000 in
theorem checkWords_ret (n : Int) (ds : List Int) (ws : List (List Int)) (hd : ds.length < 2 ^ 62) (hw : ws.length < 2 ^ 62) (hx : ∀ w ∈ ws, w.length < 2 ^ 62) : Ret Tryd.prog G0 57 [⟨.ro, .agg [i64 n, ints ds]⟩, ⟨.ro, .one (rowsI ws)⟩] ⟨.one (i64 (wcode (alphaOk n ds) (ws.all fun w => wordN n w))), []⟩ := by
  unfold rowsI
  (refine ret_of_den (E := en 11 [] (fun _ => []) (fun _ => [])) tt_ok mixed Tryd.func57 rfl rfl rfl rfl ?_; refine ⟨by simp, ?_⟩)
  repeat' (first | (refine opt_some (getC_rows rfl rfl (by omega)) ?_; conv => whnf) | (refine opt_some (by dsimp only; exact getC_lent rfl rfl (by omega)) ?_; conv => whnf) | (refine opt_some rfl ?_; conv => whnf) | (refine ⟨_, (by simp only [nf, nl, nm, en, ints, setC_setC, Nat.reduceAdd, Nat.reduceMul]; exact rfl), ?_⟩; conv => whnf) | (refine ⟨_, pick_at rfl (by first | omega | (simp only [plain_i64, plain_ints, plain_nil, all_ints]; done) | (dsimp only; omega) | exact Nat.le_of_ble_eq_true rfl | rfl | (simp; done) | (simp only [htf] at *; first | omega | (simp; omega))), ?_⟩; conv => whnf) | (refine ⟨_, rfl, ?_⟩; conv => whnf) | (first | refine iteP_true rfl ?_ | refine iteP_false rfl ?_ | refine iteP_true ‹_› ?_ | refine iteP_false ‹_› ?_; conv => whnf) | (refine And.intro (by kernel_rfl : indep _ _ = true) ?_; conv => whnf) | (refine And.intro (by rfl : List.all _ _ = true) ?_; conv => whnf) | (refine And.intro (by first | omega | (simp only [plain_i64, plain_ints, plain_nil, all_ints]; done) | (dsimp only; omega) | exact Nat.le_of_ble_eq_true rfl | rfl | (simp; done) | (simp only [htf] at *; first | omega | (simp; omega))) ?_; conv => whnf) | (refine iteP_intro (fun hb => ?_) (fun hb => ?_) <;> (conv => whnf)))
  (refine ⟨_, isAlpha_ret n ds hd, ?_⟩; conv => whnf)
  repeat' (first | (refine opt_some (getC_rows rfl rfl (by omega)) ?_; conv => whnf) | (refine opt_some (by dsimp only; exact getC_lent rfl rfl (by omega)) ?_; conv => whnf) | (refine opt_some rfl ?_; conv => whnf) | (refine ⟨_, (by simp only [nf, nl, nm, en, ints, setC_setC, Nat.reduceAdd, Nat.reduceMul]; exact rfl), ?_⟩; conv => whnf) | (refine ⟨_, pick_at rfl (by first | omega | (simp only [plain_i64, plain_ints, plain_nil, all_ints]; done) | (dsimp only; omega) | exact Nat.le_of_ble_eq_true rfl | rfl | (simp; done) | (simp only [htf] at *; first | omega | (simp; omega))), ?_⟩; conv => whnf) | (refine ⟨_, rfl, ?_⟩; conv => whnf) | (first | refine iteP_true rfl ?_ | refine iteP_false rfl ?_ | refine iteP_true ‹_› ?_ | refine iteP_false ‹_› ?_; conv => whnf) | (refine And.intro (by kernel_rfl : indep _ _ = true) ?_; conv => whnf) | (refine And.intro (by rfl : List.all _ _ = true) ?_; conv => whnf) | (refine And.intro (by first | omega | (simp only [plain_i64, plain_ints, plain_nil, all_ints]; done) | (dsimp only; omega) | exact Nat.le_of_ble_eq_true rfl | rfl | (simp; done) | (simp only [htf] at *; first | omega | (simp; omega))) ?_; conv => whnf) | (refine iteP_intro (fun hb => ?_) (fun hb => ?_) <;> (conv => whnf)))
  · refine endI ?_
    unfold wcode
    rw [if_neg (by simpa using hb)]
  · have ha : alphaOk n ds = true := by simpa using hb
    have hn := alphaOk_n ha
    have hc := containsFW_ret [i64 n, ints ds] (fun w => !wordN n w) ws hw (fun w hw => checkW1_ret n ds w (hx w hw) (by omega) (by omega))
    unfold rowsI at hc
    (refine ⟨_, hc, ?_⟩; conv => whnf)
    repeat' (first | (refine opt_some (getC_rows rfl rfl (by omega)) ?_; conv => whnf) | (refine opt_some (by dsimp only; exact getC_lent rfl rfl (by omega)) ?_; conv => whnf) | (refine opt_some rfl ?_; conv => whnf) | (refine ⟨_, (by simp only [nf, nl, nm, en, ints, setC_setC, Nat.reduceAdd, Nat.reduceMul]; exact rfl), ?_⟩; conv => whnf) | (refine ⟨_, pick_at rfl (by first | omega | (simp only [plain_i64, plain_ints, plain_nil, all_ints]; done) | (dsimp only; omega) | exact Nat.le_of_ble_eq_true rfl | rfl | (simp; done) | (simp only [htf] at *; first | omega | (simp; omega))), ?_⟩; conv => whnf) | (refine ⟨_, rfl, ?_⟩; conv => whnf) | (first | refine iteP_true rfl ?_ | refine iteP_false rfl ?_ | refine iteP_true ‹_› ?_ | refine iteP_false ‹_› ?_; conv => whnf) | (refine And.intro (by kernel_rfl : indep _ _ = true) ?_; conv => whnf) | (refine And.intro (by rfl : List.all _ _ = true) ?_; conv => whnf) | (refine And.intro (by first | omega | (simp only [plain_i64, plain_ints, plain_nil, all_ints]; done) | (dsimp only; omega) | exact Nat.le_of_ble_eq_true rfl | rfl | (simp; done) | (simp only [htf] at *; first | omega | (simp; omega))) ?_; conv => whnf) | (refine iteP_intro (fun hb => ?_) (fun hb => ?_) <;> (conv => whnf)))
    · refine endI ?_
      unfold wcode
      rw [if_pos ha, if_neg (by rw [List.all_eq_not_any_not, hb]; simp)]
    · refine endI ?_
      unfold wcode
      rw [if_pos ha, if_pos (by rw [List.all_eq_not_any_not, hb]; rfl)]
set_option maxHeartbeats 4000000 in
set_option maxRecDepth 100000 in
theorem l03Code_ret (n : Int) (ds u v : List Int) (hd : ds.length < 2 ^ 62) (hu : u.length < 2 ^ 62) (hv : v.length < 2 ^ 62) : Ret Tryd.prog G0 61 [⟨.ro, .agg [i64 n, ints ds]⟩, ⟨.ro, .one (ints u)⟩, ⟨.ro, .one (ints v)⟩] ⟨.one (i64 (wcode (alphaOk n ds) (wordN n u && wordN n v))), []⟩ := by
  (refine ret_of_den (E := en 22 [] (fun _ => []) (fun _ => [])) tt_ok mixed Tryd.func61 rfl rfl rfl rfl ?_; refine ⟨by simp, ?_⟩)
  repeat' (first | (refine opt_some (getC_rows rfl rfl (by omega)) ?_; conv => whnf) | (refine opt_some (by dsimp only; exact getC_lent rfl rfl (by omega)) ?_; conv => whnf) | (refine opt_some rfl ?_; conv => whnf) | (refine ⟨_, (by simp only [nf, nl, nm, en, ints, setC_setC, Nat.reduceAdd, Nat.reduceMul]; exact rfl), ?_⟩; conv => whnf) | (refine ⟨_, pick_at rfl (by first | omega | (simp only [plain_i64, plain_ints, plain_nil, all_ints]; done) | (dsimp only; omega) | exact Nat.le_of_ble_eq_true rfl | rfl | (simp; done) | (simp only [htf] at *; first | omega | (simp; omega))), ?_⟩; conv => whnf) | (refine ⟨_, rfl, ?_⟩; conv => whnf) | (first | refine iteP_true rfl ?_ | refine iteP_false rfl ?_ | refine iteP_true ‹_› ?_ | refine iteP_false ‹_› ?_; conv => whnf) | (refine And.intro (by kernel_rfl : indep _ _ = true) ?_; conv => whnf) | (refine And.intro (by rfl : List.all _ _ = true) ?_; conv => whnf) | (refine And.intro (by first | omega | (simp only [plain_i64, plain_ints, plain_nil, all_ints]; done) | (dsimp only; omega) | exact Nat.le_of_ble_eq_true rfl | rfl | (simp; done) | (simp only [htf] at *; first | omega | (simp; omega))) ?_; conv => whnf) | (refine iteP_intro (fun hb => ?_) (fun hb => ?_) <;> (conv => whnf)))
  (refine ⟨_, l02Is_ret n ds hd, ?_⟩; conv => whnf)
  repeat' (first | (refine opt_some (getC_rows rfl rfl (by omega)) ?_; conv => whnf) | (refine opt_some (by dsimp only; exact getC_lent rfl rfl (by omega)) ?_; conv => whnf) | (refine opt_some rfl ?_; conv => whnf) | (refine ⟨_, (by simp only [nf, nl, nm, en, ints, setC_setC, Nat.reduceAdd, Nat.reduceMul]; exact rfl), ?_⟩; conv => whnf) | (refine ⟨_, pick_at rfl (by first | omega | (simp only [plain_i64, plain_ints, plain_nil, all_ints]; done) | (dsimp only; omega) | exact Nat.le_of_ble_eq_true rfl | rfl | (simp; done) | (simp only [htf] at *; first | omega | (simp; omega))), ?_⟩; conv => whnf) | (refine ⟨_, rfl, ?_⟩; conv => whnf) | (first | refine iteP_true rfl ?_ | refine iteP_false rfl ?_ | refine iteP_true ‹_› ?_ | refine iteP_false ‹_› ?_; conv => whnf) | (refine And.intro (by kernel_rfl : indep _ _ = true) ?_; conv => whnf) | (refine And.intro (by rfl : List.all _ _ = true) ?_; conv => whnf) | (refine And.intro (by first | omega | (simp only [plain_i64, plain_ints, plain_nil, all_ints]; done) | (dsimp only; omega) | exact Nat.le_of_ble_eq_true rfl | rfl | (simp; done) | (simp only [htf] at *; first | omega | (simp; omega))) ?_; conv => whnf) | (refine iteP_intro (fun hb => ?_) (fun hb => ?_) <;> (conv => whnf)))
  · refine endI ?_
    unfold wcode
    rw [if_neg (by simpa using hb)]
  · have ha : alphaOk n ds = true := by simpa using hb
    have hn := alphaOk_n ha
    (refine ⟨_, l03Word_ret n u hu (by omega) (by omega), ?_⟩; conv => whnf)
    repeat' (first | (refine opt_some (getC_rows rfl rfl (by omega)) ?_; conv => whnf) | (refine opt_some (by dsimp only; exact getC_lent rfl rfl (by omega)) ?_; conv => whnf) | (refine opt_some rfl ?_; conv => whnf) | (refine ⟨_, (by simp only [nf, nl, nm, en, ints, setC_setC, Nat.reduceAdd, Nat.reduceMul]; exact rfl), ?_⟩; conv => whnf) | (refine ⟨_, pick_at rfl (by first | omega | (simp only [plain_i64, plain_ints, plain_nil, all_ints]; done) | (dsimp only; omega) | exact Nat.le_of_ble_eq_true rfl | rfl | (simp; done) | (simp only [htf] at *; first | omega | (simp; omega))), ?_⟩; conv => whnf) | (refine ⟨_, rfl, ?_⟩; conv => whnf) | (first | refine iteP_true rfl ?_ | refine iteP_false rfl ?_ | refine iteP_true ‹_› ?_ | refine iteP_false ‹_› ?_; conv => whnf) | (refine And.intro (by kernel_rfl : indep _ _ = true) ?_; conv => whnf) | (refine And.intro (by rfl : List.all _ _ = true) ?_; conv => whnf) | (refine And.intro (by first | omega | (simp only [plain_i64, plain_ints, plain_nil, all_ints]; done) | (dsimp only; omega) | exact Nat.le_of_ble_eq_true rfl | rfl | (simp; done) | (simp only [htf] at *; first | omega | (simp; omega))) ?_; conv => whnf) | (refine iteP_intro (fun hb => ?_) (fun hb => ?_) <;> (conv => whnf)))
    · refine endI ?_
      unfold wcode
      rw [if_pos ha, if_neg (by simp [by simpa using hb])]
    · (refine ⟨_, l03Word_ret n v hv (by omega) (by omega), ?_⟩; conv => whnf)
      repeat' (first | (refine opt_some (getC_rows rfl rfl (by omega)) ?_; conv => whnf) | (refine opt_some (by dsimp only; exact getC_lent rfl rfl (by omega)) ?_; conv => whnf) | (refine opt_some rfl ?_; conv => whnf) | (refine ⟨_, (by simp only [nf, nl, nm, en, ints, setC_setC, Nat.reduceAdd, Nat.reduceMul]; exact rfl), ?_⟩; conv => whnf) | (refine ⟨_, pick_at rfl (by first | omega | (simp only [plain_i64, plain_ints, plain_nil, all_ints]; done) | (dsimp only; omega) | exact Nat.le_of_ble_eq_true rfl | rfl | (simp; done) | (simp only [htf] at *; first | omega | (simp; omega))), ?_⟩; conv => whnf) | (refine ⟨_, rfl, ?_⟩; conv => whnf) | (first | refine iteP_true rfl ?_ | refine iteP_false rfl ?_ | refine iteP_true ‹_› ?_ | refine iteP_false ‹_› ?_; conv => whnf) | (refine And.intro (by kernel_rfl : indep _ _ = true) ?_; conv => whnf) | (refine And.intro (by rfl : List.all _ _ = true) ?_; conv => whnf) | (refine And.intro (by first | omega | (simp only [plain_i64, plain_ints, plain_nil, all_ints]; done) | (dsimp only; omega) | exact Nat.le_of_ble_eq_true rfl | rfl | (simp; done) | (simp only [htf] at *; first | omega | (simp; omega))) ?_; conv => whnf) | (refine iteP_intro (fun hb => ?_) (fun hb => ?_) <;> (conv => whnf)))
      · refine endI ?_
        unfold wcode
        rw [if_pos ha, if_neg (by simp [by simpa using hb])]
      · refine endI ?_
        unfold wcode
        have h1 : wordN n u = true := by simpa using ‹(!wordN n u) = false›
        have h2 : wordN n v = true := by simpa using hb
        rw [if_pos ha, if_pos (by rw [h1, h2]; rfl)]
/-- Where the letter a stands if it can be taken away from the front of a word, or -1. -/
def frI (ms : List Nat) (a : Nat) : List Nat → Int → Int
  | [], _ => -1
  | b :: w, i => if b = a then i else if dep ms b a then -1 else frI ms a w (i + 1)
theorem frI_step {ms : List Nat} {a : Nat} {w : List Nat} {i : Nat} (hi : i < w.length) : frI ms a (w.drop i) i = if w.getD i 0 = a then (i : Int) else if dep ms (w.getD i 0) a then -1 else frI ms a (w.drop (i + 1)) ((i + 1 : Nat) : Int) := by
  rw [List.drop_eq_getElem_cons hi, List.getD_eq_getElem?_getD, List.getElem?_eq_getElem hi, Option.getD_some]
  rfl
theorem frI_spec {ms : List Nat} {a : Nat} : ∀ (w : List Nat) (k : Nat), (canF ms a w = true ∧ ∃ i : Nat, i < w.length ∧ frI ms a w k = ((k + i : Nat) : Int) ∧ w.take i ++ w.drop (i + 1) = w.erase a) ∨ (canF ms a w = false ∧ frI ms a w k = -1)
  | [], _ => .inr ⟨rfl, rfl⟩
  | b :: w, k => by
    by_cases hb : b = a
    · subst hb
      exact .inl ⟨canF_head .., 0, by simp, by simp [frI], by simp⟩
    · cases hd : dep ms b a with
      | true => exact .inr ⟨by simp [canF, hb, hd], by simp [frI, hb, hd]⟩
      | false =>
        rcases frI_spec (ms := ms) (a := a) w (k + 1) with ⟨h1, i, h2, h3, h4⟩ | ⟨h1, h2⟩
        · refine .inl ⟨by simp [canF, hd, h1], i + 1, by simpa using h2, ?_, ?_⟩
          · simp only [frI, hb, hd, if_false, Bool.false_eq_true]
            rw [show (k : Int) + 1 = ((k + 1 : Nat) : Int) by omega, h3]
            congr 1
            omega
          · rw [List.erase_cons_tail (by simpa using hb), ← h4]
            simp
        · refine .inr ⟨by simp [canF, hb, hd, h1], ?_⟩
          simp only [frI, hb, hd, if_false, Bool.false_eq_true]
          rw [show (k : Int) + 1 = ((k + 1 : Nat) : Int) by omega, h2]
set_option maxHeartbeats 4000000 in
set_option maxRecDepth 100000 in
theorem l03First_ret (ms w : List Nat) (a : Nat) (hl : ms.length ≤ 16) (hm : ∀ m ∈ ms, m < 2 ^ ms.length) (hw : Wd ms w) (hx : w.length < 2 ^ 40) (ha : a < 64) : Ret Tryd.prog G0 124 [⟨.ro, .agg [i64 ms.length, ints (natI ms)]⟩, ⟨.ro, .one (ints (natI w))⟩, ⟨.ro, .one (i64 a)⟩] ⟨.one (i64 (frI ms a w 0)), []⟩ := by
  have hwl := natI_length w
  (refine ret_of_den (E := en 28 [] (fun _ => [(7, 0), (3, 0), (2, 0), (1, 1)]) (fun _ => [])) tt_ok mixed Tryd.func124 rfl rfl rfl rfl ?_; refine ⟨by simp, ?_⟩)
  repeat' (first | (refine opt_some (getC_rows rfl rfl (by omega)) ?_; conv => whnf) | (refine opt_some (by dsimp only; exact getC_lent rfl rfl (by omega)) ?_; conv => whnf) | (refine opt_some rfl ?_; conv => whnf) | (refine ⟨_, (by simp only [nf, nl, nm, en, ints, setC_setC, Nat.reduceAdd, Nat.reduceMul]; exact rfl), ?_⟩; conv => whnf) | (refine ⟨_, pick_at rfl (by first | omega | (simp only [plain_i64, plain_ints, plain_nil, all_ints]; done) | (dsimp only; omega) | exact Nat.le_of_ble_eq_true rfl | rfl | (simp; done) | (simp only [htf] at *; first | omega | (simp; omega))), ?_⟩; conv => whnf) | (refine ⟨_, rfl, ?_⟩; conv => whnf) | (first | refine iteP_true rfl ?_ | refine iteP_false rfl ?_ | refine iteP_true ‹_› ?_ | refine iteP_false ‹_› ?_; conv => whnf) | (refine And.intro (by kernel_rfl : indep _ _ = true) ?_; conv => whnf) | (refine And.intro (by rfl : List.all _ _ = true) ?_; conv => whnf) | (refine And.intro (by first | omega | (simp only [plain_i64, plain_ints, plain_nil, all_ints]; done) | (dsimp only; omega) | exact Nat.le_of_ble_eq_true rfl | rfl | (simp; done) | (simp only [htf] at *; first | omega | (simp; omega))) ?_; conv => whnf) | (refine iteP_intro (fun hb => ?_) (fun hb => ?_) <;> (conv => whnf)))
  refine ⟨fun k vs => ∃ i : Nat, i ≤ w.length ∧ frI ms a w 0 = frI ms a (w.drop i) i ∧ vs = [.one (i64 i), .one (.ptr [i64 ms.length, .shd (ints (natI ms))]), .one (i64 a), .one (.shd (ints (natI w)))] ∧ k = w.length - i, rfl, ⟨_, 0, by omega, rfl, rfl, rfl⟩, ?_⟩
  rintro k vs ⟨i, hi, hf, rfl, rfl⟩
  repeat (first | (refine opt_some (getC_rows rfl rfl (by omega)) ?_; conv => whnf) | (refine opt_some (by dsimp only; exact getC_lent rfl rfl (by omega)) ?_; conv => whnf) | (refine opt_some rfl ?_; conv => whnf) | (refine ⟨_, (by simp only [nf, nl, nm, en, ints, setC_setC, Nat.reduceAdd, Nat.reduceMul]; exact rfl), ?_⟩; conv => whnf) | (refine ⟨_, pick_at rfl (by first | omega | (simp only [plain_i64, plain_ints, plain_nil, all_ints]; done) | (dsimp only; omega) | exact Nat.le_of_ble_eq_true rfl | rfl | (simp; done) | (simp only [htf] at *; first | omega | (simp; omega))), ?_⟩; conv => whnf) | (refine ⟨_, rfl, ?_⟩; conv => whnf) | (first | refine iteP_true rfl ?_ | refine iteP_false rfl ?_ | refine iteP_true ‹_› ?_ | refine iteP_false ‹_› ?_; conv => whnf) | (refine And.intro (by kernel_rfl : indep _ _ = true) ?_; conv => whnf) | (refine And.intro (by rfl : List.all _ _ = true) ?_; conv => whnf) | (refine And.intro (by first | omega | (simp only [plain_i64, plain_ints, plain_nil, all_ints]; done) | (dsimp only; omega) | exact Nat.le_of_ble_eq_true rfl | rfl | (simp; done) | (simp only [htf] at *; first | omega | (simp; omega))) ?_; conv => whnf))
  refine iteP_intro (fun hb => ?_) (fun hb => ?_) <;> (conv => whnf)
  · have hi' : i < w.length := by have := leT hb; omega
    have hg : (natI w)[i]'(by rw [hwl]; exact hi') = ((w.getD i 0 : Nat) : Int) := natI_getD hi'
    have hc := wd_lt hw hi'
    rw [frI_step hi'] at hf
    generalize w.getD i 0 = c at hg hc hf
    repeat (first | (refine opt_some (getC_rows rfl rfl (by omega)) ?_; conv => whnf) | (refine opt_some (by dsimp only; exact getC_lent rfl rfl (by omega)) ?_; conv => whnf) | (refine opt_some rfl ?_; conv => whnf) | (refine ⟨_, (by simp only [nf, nl, nm, en, ints, setC_setC, Nat.reduceAdd, Nat.reduceMul, hg]; exact rfl), ?_⟩; conv => whnf) | (refine ⟨_, pick_at rfl (by first | omega | (simp only [plain_i64, plain_ints, plain_nil, all_ints]; done) | (dsimp only; omega) | exact Nat.le_of_ble_eq_true rfl | rfl | (simp; done) | (simp only [htf] at *; first | omega | (simp; omega))), ?_⟩; conv => whnf) | (refine ⟨_, rfl, ?_⟩; conv => whnf) | (first | refine iteP_true rfl ?_ | refine iteP_false rfl ?_ | refine iteP_true ‹_› ?_ | refine iteP_false ‹_› ?_; conv => whnf) | (refine And.intro (by kernel_rfl : indep _ _ = true) ?_; conv => whnf) | (refine And.intro (by rfl : List.all _ _ = true) ?_; conv => whnf) | (refine And.intro (by first | omega | (simp only [plain_i64, plain_ints, plain_nil, all_ints]; done) | (dsimp only; omega) | exact Nat.le_of_ble_eq_true rfl | rfl | (simp; done) | (simp only [htf] at *; first | omega | (simp; omega))) ?_; conv => whnf))
    refine iteP_intro (fun hca => ?_) (fun hca => ?_) <;> (conv => whnf)
    · rw [if_pos (Int.natCast_inj.1 (eqT hca))] at hf
      repeat' (first | (refine opt_some (getC_rows rfl rfl (by omega)) ?_; conv => whnf) | (refine opt_some (by dsimp only; exact getC_lent rfl rfl (by omega)) ?_; conv => whnf) | (refine opt_some rfl ?_; conv => whnf) | (refine ⟨_, (by simp only [nf, nl, nm, en, ints, setC_setC, Nat.reduceAdd, Nat.reduceMul]; exact rfl), ?_⟩; conv => whnf) | (refine ⟨_, pick_at rfl (by first | omega | (simp only [plain_i64, plain_ints, plain_nil, all_ints]; done) | (dsimp only; omega) | exact Nat.le_of_ble_eq_true rfl | rfl | (simp; done) | (simp only [htf] at *; first | omega | (simp; omega))), ?_⟩; conv => whnf) | (refine ⟨_, rfl, ?_⟩; conv => whnf) | (first | refine iteP_true rfl ?_ | refine iteP_false rfl ?_ | refine iteP_true ‹_› ?_ | refine iteP_false ‹_› ?_; conv => whnf) | (refine And.intro (by kernel_rfl : indep _ _ = true) ?_; conv => whnf) | (refine And.intro (by rfl : List.all _ _ = true) ?_; conv => whnf) | (refine And.intro (by first | omega | (simp only [plain_i64, plain_ints, plain_nil, all_ints]; done) | (dsimp only; omega) | exact Nat.le_of_ble_eq_true rfl | rfl | (simp; done) | (simp only [htf] at *; first | omega | (simp; omega))) ?_; conv => whnf) | (refine iteP_intro (fun hb => ?_) (fun hb => ?_) <;> (conv => whnf)))
      rw [hf]
      rfl
    · rw [if_neg (fun e => eqF hca (by rw [e]))] at hf
      repeat (first | (refine opt_some (getC_rows rfl rfl (by omega)) ?_; conv => whnf) | (refine opt_some (by dsimp only; exact getC_lent rfl rfl (by omega)) ?_; conv => whnf) | (refine opt_some rfl ?_; conv => whnf) | (refine ⟨_, (by simp only [nf, nl, nm, en, ints, setC_setC, Nat.reduceAdd, Nat.reduceMul, hg]; exact rfl), ?_⟩; conv => whnf) | (refine ⟨_, pick_at rfl (by first | omega | (simp only [plain_i64, plain_ints, plain_nil, all_ints]; done) | (dsimp only; omega) | exact Nat.le_of_ble_eq_true rfl | rfl | (simp; done) | (simp only [htf] at *; first | omega | (simp; omega))), ?_⟩; conv => whnf) | (refine ⟨_, rfl, ?_⟩; conv => whnf) | (first | refine iteP_true rfl ?_ | refine iteP_false rfl ?_ | refine iteP_true ‹_› ?_ | refine iteP_false ‹_› ?_; conv => whnf) | (refine And.intro (by kernel_rfl : indep _ _ = true) ?_; conv => whnf) | (refine And.intro (by rfl : List.all _ _ = true) ?_; conv => whnf) | (refine And.intro (by first | omega | (simp only [plain_i64, plain_ints, plain_nil, all_ints]; done) | (dsimp only; omega) | exact Nat.le_of_ble_eq_true rfl | rfl | (simp; done) | (simp only [htf] at *; first | omega | (simp; omega))) ?_; conv => whnf))
      (refine ⟨_, l02Dep_ret _ ms c a hc ha (by omega) hm, ?_⟩; conv => whnf)
      have hdd : (ms.getD c 0).testBit a = dep ms c a := rfl
      rw [hdd]
      generalize dep ms c a = d at hf
      cases d with
      | true =>
        rw [if_pos rfl] at hf
        repeat' (first | (refine opt_some (getC_rows rfl rfl (by omega)) ?_; conv => whnf) | (refine opt_some (by dsimp only; exact getC_lent rfl rfl (by omega)) ?_; conv => whnf) | (refine opt_some rfl ?_; conv => whnf) | (refine ⟨_, (by simp only [nf, nl, nm, en, ints, setC_setC, Nat.reduceAdd, Nat.reduceMul]; exact rfl), ?_⟩; conv => whnf) | (refine ⟨_, pick_at rfl (by first | omega | (simp only [plain_i64, plain_ints, plain_nil, all_ints]; done) | (dsimp only; omega) | exact Nat.le_of_ble_eq_true rfl | rfl | (simp; done) | (simp only [htf] at *; first | omega | (simp; omega))), ?_⟩; conv => whnf) | (refine ⟨_, rfl, ?_⟩; conv => whnf) | (first | refine iteP_true rfl ?_ | refine iteP_false rfl ?_ | refine iteP_true ‹_› ?_ | refine iteP_false ‹_› ?_; conv => whnf) | (refine And.intro (by kernel_rfl : indep _ _ = true) ?_; conv => whnf) | (refine And.intro (by rfl : List.all _ _ = true) ?_; conv => whnf) | (refine And.intro (by first | omega | (simp only [plain_i64, plain_ints, plain_nil, all_ints]; done) | (dsimp only; omega) | exact Nat.le_of_ble_eq_true rfl | rfl | (simp; done) | (simp only [htf] at *; first | omega | (simp; omega))) ?_; conv => whnf) | (refine iteP_intro (fun hb => ?_) (fun hb => ?_) <;> (conv => whnf)))
        rw [hf]
        rfl
      | false =>
        rw [if_neg (by simp)] at hf
        repeat (first | (refine opt_some (getC_rows rfl rfl (by omega)) ?_; conv => whnf) | (refine opt_some (by dsimp only; exact getC_lent rfl rfl (by omega)) ?_; conv => whnf) | (refine opt_some rfl ?_; conv => whnf) | (refine ⟨_, (by simp only [nf, nl, nm, en, ints, setC_setC, Nat.reduceAdd, Nat.reduceMul]; exact rfl), ?_⟩; conv => whnf) | (refine ⟨_, pick_at rfl (by first | omega | (simp only [plain_i64, plain_ints, plain_nil, all_ints]; done) | (dsimp only; omega) | exact Nat.le_of_ble_eq_true rfl | rfl | (simp; done) | (simp only [htf] at *; first | omega | (simp; omega))), ?_⟩; conv => whnf) | (refine ⟨_, rfl, ?_⟩; conv => whnf) | (first | refine iteP_true rfl ?_ | refine iteP_false rfl ?_ | refine iteP_true ‹_› ?_ | refine iteP_false ‹_› ?_; conv => whnf) | (refine And.intro (by kernel_rfl : indep _ _ = true) ?_; conv => whnf) | (refine And.intro (by rfl : List.all _ _ = true) ?_; conv => whnf) | (refine And.intro (by first | omega | (simp only [plain_i64, plain_ints, plain_nil, all_ints]; done) | (dsimp only; omega) | exact Nat.le_of_ble_eq_true rfl | rfl | (simp; done) | (simp only [htf] at *; first | omega | (simp; omega))) ?_; conv => whnf))
        refine ⟨_, ?_, i + 1, hi', hf, ?_, rfl⟩
        · omega
        · rw [wrap_succ (by omega)]
          rfl
  · obtain rfl : i = w.length := by have := leF hb; omega
    repeat' (first | (refine opt_some (getC_rows rfl rfl (by omega)) ?_; conv => whnf) | (refine opt_some (by dsimp only; exact getC_lent rfl rfl (by omega)) ?_; conv => whnf) | (refine opt_some rfl ?_; conv => whnf) | (refine ⟨_, (by simp only [nf, nl, nm, en, ints, setC_setC, Nat.reduceAdd, Nat.reduceMul]; exact rfl), ?_⟩; conv => whnf) | (refine ⟨_, pick_at rfl (by first | omega | (simp only [plain_i64, plain_ints, plain_nil, all_ints]; done) | (dsimp only; omega) | exact Nat.le_of_ble_eq_true rfl | rfl | (simp; done) | (simp only [htf] at *; first | omega | (simp; omega))), ?_⟩; conv => whnf) | (refine ⟨_, rfl, ?_⟩; conv => whnf) | (first | refine iteP_true rfl ?_ | refine iteP_false rfl ?_ | refine iteP_true ‹_› ?_ | refine iteP_false ‹_› ?_; conv => whnf) | (refine And.intro (by kernel_rfl : indep _ _ = true) ?_; conv => whnf) | (refine And.intro (by rfl : List.all _ _ = true) ?_; conv => whnf) | (refine And.intro (by first | omega | (simp only [plain_i64, plain_ints, plain_nil, all_ints]; done) | (dsimp only; omega) | exact Nat.le_of_ble_eq_true rfl | rfl | (simp; done) | (simp only [htf] at *; first | omega | (simp; omega))) ?_; conv => whnf) | (refine iteP_intro (fun hb => ?_) (fun hb => ?_) <;> (conv => whnf)))
    rw [hf, List.drop_length]
    rfl
set_option maxHeartbeats 4000000 in
set_option maxRecDepth 100000 in
theorem l03Without_ret (w : List Nat) (i : Nat) (hx : w.length ≤ 2 ^ 39) (hi : i < w.length) : Ret Tryd.prog G0 125 [⟨.ro, .one (ints (natI w))⟩, ⟨.ro, .one (i64 i)⟩] ⟨.one (ints (natI (w.take i ++ w.drop (i + 1)))), []⟩ := by
  have hwl := natI_length w
  (refine ret_of_den (E := en 14 [] (fun _ => []) (fun _ => [])) tt_ok mixed Tryd.func125 rfl rfl rfl rfl ?_; refine ⟨by simp, ?_⟩)
  have hw : IntKind.i64.wrap ((i : Int) + 1) = ((i + 1 : Nat) : Int) := wrap_succ (by omega)
  have e1 : Cell.sl false 1 (i : Int).toNat (((natI w).map i64).take ((i : Int).toNat * 1)) = ints (natI (w.take i)) := by rw [cut_hi (by omega), natI_take]
  have e2 : Cell.sl false 1 ((natI w).length - ((i + 1 : Nat) : Int).toNat) (((natI w).map i64).drop (((i + 1 : Nat) : Int).toNat * 1)) = ints (natI (w.drop (i + 1))) := by rw [cut_lo, natI_drop]
  have hl1 : (natI (w.take i)).length ≤ 2 ^ 39 := by rw [natI_length, List.length_take]; omega
  have hl2 : (natI (w.drop (i + 1))).length ≤ 2 ^ 39 := by rw [natI_length, List.length_drop]; omega
  repeat (first | (refine opt_some (getC_rows rfl rfl (by omega)) ?_; conv => whnf) | (refine opt_some (by dsimp only; exact getC_lent rfl rfl (by omega)) ?_; conv => whnf) | (refine opt_some rfl ?_; conv => whnf) | (refine ⟨_, (by simp only [nf, nl, nm, en, ints, setC_setC, Nat.reduceAdd, Nat.reduceMul, hw, e1, e2]; exact rfl), ?_⟩; conv => whnf) | (refine ⟨_, pick_at rfl (by first | omega | (simp only [plain_i64, plain_ints, plain_nil, all_ints]; done) | (dsimp only; omega) | exact Nat.le_of_ble_eq_true rfl | rfl | (simp; done) | (simp only [htf] at *; first | omega | (simp; omega))), ?_⟩; conv => whnf) | (refine ⟨_, rfl, ?_⟩; conv => whnf) | (first | refine iteP_true rfl ?_ | refine iteP_false rfl ?_ | refine iteP_true ‹_› ?_ | refine iteP_false ‹_› ?_; conv => whnf) | (refine And.intro (by kernel_rfl : indep _ _ = true) ?_; conv => whnf) | (refine And.intro (by rfl : List.all _ _ = true) ?_; conv => whnf) | (refine And.intro (by first | omega | (simp only [plain_i64, plain_ints, plain_nil, all_ints]; done) | (dsimp only; omega) | exact Nat.le_of_ble_eq_true rfl | rfl | (simp; done) | (simp only [htf] at *; first | omega | (simp; omega))) ?_; conv => whnf))
  (refine ⟨_, l01Own_ret (natI (w.take i)) (by omega), ?_⟩; conv => whnf)
  repeat (first | (refine opt_some (getC_rows rfl rfl (by omega)) ?_; conv => whnf) | (refine opt_some (by dsimp only; exact getC_lent rfl rfl (by omega)) ?_; conv => whnf) | (refine opt_some rfl ?_; conv => whnf) | (refine ⟨_, (by simp only [nf, nl, nm, en, ints, setC_setC, Nat.reduceAdd, Nat.reduceMul, hw, e1, e2]; exact rfl), ?_⟩; conv => whnf) | (refine ⟨_, pick_at rfl (by first | omega | (simp only [plain_i64, plain_ints, plain_nil, all_ints]; done) | (dsimp only; omega) | exact Nat.le_of_ble_eq_true rfl | rfl | (simp; done) | (simp only [htf] at *; first | omega | (simp; omega))), ?_⟩; conv => whnf) | (refine ⟨_, rfl, ?_⟩; conv => whnf) | (first | refine iteP_true rfl ?_ | refine iteP_false rfl ?_ | refine iteP_true ‹_› ?_ | refine iteP_false ‹_› ?_; conv => whnf) | (refine And.intro (by kernel_rfl : indep _ _ = true) ?_; conv => whnf) | (refine And.intro (by rfl : List.all _ _ = true) ?_; conv => whnf) | (refine And.intro (by first | omega | (simp only [plain_i64, plain_ints, plain_nil, all_ints]; done) | (dsimp only; omega) | exact Nat.le_of_ble_eq_true rfl | rfl | (simp; done) | (simp only [htf] at *; first | omega | (simp; omega))) ?_; conv => whnf))
  repeat' (first | (refine opt_some (getC_rows rfl rfl (by omega)) ?_; conv => whnf) | (refine opt_some (by dsimp only; exact getC_lent rfl rfl (by omega)) ?_; conv => whnf) | (refine opt_some rfl ?_; conv => whnf) | (refine ⟨_, (by simp only [nf, nl, nm, en, ints, setC_setC, Nat.reduceAdd, Nat.reduceMul, hw, e1, e2]; exact rfl), ?_⟩; conv => whnf) | (refine ⟨_, pick_at rfl (by first | omega | (simp only [plain_i64, plain_ints, plain_nil, all_ints]; done) | (dsimp only; omega) | exact Nat.le_of_ble_eq_true rfl | rfl | (simp; done) | (simp only [htf] at *; first | omega | (simp; omega))), ?_⟩; conv => whnf) | (refine ⟨_, rfl, ?_⟩; conv => whnf) | (first | refine iteP_true rfl ?_ | refine iteP_false rfl ?_ | refine iteP_true ‹_› ?_ | refine iteP_false ‹_› ?_; conv => whnf) | (refine And.intro (by kernel_rfl : indep _ _ = true) ?_; conv => whnf) | (refine And.intro (by rfl : List.all _ _ = true) ?_; conv => whnf) | (refine And.intro (by first | omega | (simp only [plain_i64, plain_ints, plain_nil, all_ints]; done) | (dsimp only; omega) | exact Nat.le_of_ble_eq_true rfl | rfl | (simp; done) | (simp only [htf] at *; first | omega | (simp; omega))) ?_; conv => whnf) | (refine iteP_intro (fun hb => ?_) (fun hb => ?_) <;> (conv => whnf)))
  rw [natI_append]
  simp [resSV, isAggS, svLike]
theorem word_nat {n : Int} {xs : List Int} (h : wordN n xs = true) : ∃ w : List Nat, xs.map Int.toNat = w ∧ xs = natI w ∧ w.length ≤ 24 ∧ ∀ c ∈ w, (c : Int) < n := by
  unfold wordN at h
  simp only [Bool.and_eq_true, decide_eq_true_eq, List.all_eq_true] at h
  refine ⟨_, rfl, ?_, by rw [List.length_map]; exact h.1, fun c hc => ?_⟩
  · unfold natI
    rw [List.map_map]
    conv => lhs; rw [← List.map_id xs]
    refine List.map_congr_left fun x hx => ?_
    have := (h.2 x hx).1
    simp only [id, Function.comp]
    omega
  · obtain ⟨x, hx, rfl⟩ := List.mem_map.1 hc
    have := h.2 x hx
    omega
theorem word_wd {ms w : List Nat} (h : ∀ c ∈ w, (c : Int) < (ms.length : Int)) : Wd ms w := fun c hc => by have := h c hc; omega
theorem alpha_of {ms : List Nat} (hl : ms.length ≤ 8) (hm : ∀ m ∈ ms, m < 2 ^ ms.length) (hs : ∀ a < ms.length, (ms.getD a 0).testBit a = true ∧ ∀ b < ms.length, (ms.getD a 0).testBit b = (ms.getD b 0).testBit a) : Alpha ms := by
  have hz : ∀ a b, ¬ (a < ms.length ∧ b < ms.length) → dep ms a b = false := fun a b h => by
    unfold dep
    by_cases ha : a < ms.length
    · have hb : ¬ b < ms.length := fun hb => h ⟨ha, hb⟩
      rw [List.getD_eq_getElem?_getD, List.getElem?_eq_getElem ha, Option.getD_some]
      exact Nat.testBit_lt_two_pow (Nat.lt_of_lt_of_le (hm _ (List.getElem_mem ha)) (Nat.pow_le_pow_right (by decide) (by omega)))
    · rw [List.getD_eq_getElem?_getD, List.getElem?_eq_none (by omega), Option.getD_none, Nat.zero_testBit]
  refine ⟨hm, fun a b => ?_, fun a ha => (hs a ha).1⟩
  by_cases h : a < ms.length ∧ b < ms.length
  · exact (hs a h.1).2 b h.2
  · rw [hz a b h, hz b a fun h' => h ⟨h'.2, h'.1⟩]
/-- An alphabet that is valid. -/
theorem alpha_ok {n : Int} {ds : List Int} (h : alphaOk n ds = true) : ∃ ms : List Nat, ds.map Int.toNat = ms ∧ n = ms.length ∧ ds = natI ms ∧ ms.length ≤ 8 ∧ Alpha ms := by
  obtain ⟨ms, h1, h2, h3, h4, h5, h6⟩ := alpha_nat h
  exact ⟨ms, h1, h2, h3, h4, alpha_of h4 h5 h6⟩
theorem wcode_t (b : Bool) : wcode true b = if b then 0 else 2 := rfl
theorem wcode_f (b : Bool) : wcode false b = 1 := rfl
end Go.Proofs.YtpopepcmfanegaaDoor
