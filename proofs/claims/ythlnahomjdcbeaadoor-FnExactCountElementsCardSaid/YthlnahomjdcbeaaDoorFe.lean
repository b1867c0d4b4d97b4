import Derived.Test.YthlnahomjdcbeaaDoorFd
set_option autoImplicit false
set_option linter.unusedSimpArgs false
set_option linter.unusedVariables false
namespace Go.Proofs.YthlnahomjdcbeaaDoor
open Go.Den
set_option maxHeartbeats 4000000 in
set_option maxRecDepth 100000 in
theorem l09Double_ret (ms : List Nat) (hl : ms.length ≤ 8) (hm : ∀ m ∈ ms, m < 2 ^ ms.length) : Ret Tryd.prog G0 46 [⟨.ro, .agg [i64 ms.length, ints (natI ms)]⟩] ⟨.agg [i64 (2 * ms.length : Nat), ints (natI (dblN ms))], []⟩ := by
  have hnl := natI_length ms
  (refine ret_of_den (E := en 43 [] (fun | 3 => [(1, 0), (2, 0), (3, 0), (4, 0)] | 7 => [(1, 0), (2, 0), (3, 0), (4, 0), (5, 0), (6, 0)] | _ => [])) tt_ok mixed Tryd.func46 rfl rfl rfl rfl ?_; refine ⟨by simp, ?_⟩)
  have hw : IntKind.i64.wrap (2 * (ms.length : Int)) = ((2 * ms.length : Nat) : Int) := by rw [wrap_i64 (by omega) (by omega)]; omega
  repeat' (first | (refine opt_some (getC_rows rfl rfl (by omega)) ?_; conv => whnf) | (refine opt_some rfl ?_; conv => whnf) | (refine ⟨_, (by simp only [nf, nl, nm, en, ints, Nat.reduceAdd, Nat.reduceMul, Int.toNat_natCast, hw]; exact rfl), ?_⟩; conv => whnf) | (refine ⟨_, pick_at rfl (by first | exact Nat.le_of_ble_eq_true rfl | rfl | exact plain_i64 _ | exact plain_ints _ | exact all_ints _ | omega | (dsimp only; omega) | (simp; done) | (simp only [htf] at *; first | omega | (simp; omega))), ?_⟩; conv => whnf) | (refine ⟨_, rfl, ?_⟩; conv => whnf) | (first | refine iteP_true rfl ?_ | refine iteP_false rfl ?_ | refine iteP_true ‹_› ?_ | refine iteP_false ‹_› ?_; conv => whnf) | (refine And.intro (by kernel_rfl : indep _ _ = true) ?_; conv => whnf) | (refine And.intro (by rfl : List.all _ _ = true) ?_; conv => whnf) | (refine And.intro (by first | exact Nat.le_of_ble_eq_true rfl | rfl | exact plain_i64 _ | exact plain_ints _ | exact all_ints _ | omega | (dsimp only; omega) | (simp; done) | (simp only [htf] at *; first | omega | (simp; omega))) ?_; conv => whnf) | (refine iteP_intro (fun hb => ?_) (fun hb => ?_) <;> (conv => whnf)))
  refine ⟨fun k vs => ∃ a : Nat, a ≤ 2 * ms.length ∧ vs = [.one (.ptr [i64 ms.length, .shd (ints (natI ms))]), .one (.ptr [i64 0, nilS]), .one (.ptr [i64 (2 * ms.length : Nat), ints (natI (dblT ms a))]), .one (i64 a)] ∧ k = 2 * ms.length - a, rfl, ⟨_, 0, by omega, ?_, rfl⟩, ?_⟩
  · simp only [ints, natI_length, dblT_length]; rfl
  · rintro k vs ⟨a, ha, rfl, rfl⟩
    have hdl := dblT_length ms a
    have hdn := natI_length (dblT ms a)
    repeat (first | (refine opt_some (getC_rows rfl rfl (by omega)) ?_; conv => whnf) | (refine opt_some rfl ?_; conv => whnf) | (refine ⟨_, (by simp only [nf, nl, nm, en, ints, Nat.reduceAdd, Nat.reduceMul, hw]; exact rfl), ?_⟩; conv => whnf) | (refine ⟨_, pick_at rfl (by first | exact Nat.le_of_ble_eq_true rfl | rfl | exact plain_i64 _ | exact plain_ints _ | exact all_ints _ | omega | (dsimp only; omega) | (simp; done) | (simp only [htf] at *; first | omega | (simp; omega))), ?_⟩; conv => whnf) | (refine ⟨_, rfl, ?_⟩; conv => whnf) | (first | refine iteP_true rfl ?_ | refine iteP_false rfl ?_ | refine iteP_true ‹_› ?_ | refine iteP_false ‹_› ?_; conv => whnf) | (refine And.intro (by kernel_rfl : indep _ _ = true) ?_; conv => whnf) | (refine And.intro (by rfl : List.all _ _ = true) ?_; conv => whnf) | (refine And.intro (by first | exact Nat.le_of_ble_eq_true rfl | rfl | exact plain_i64 _ | exact plain_ints _ | exact all_ints _ | omega | (dsimp only; omega) | (simp; done) | (simp only [htf] at *; first | omega | (simp; omega))) ?_; conv => whnf))
    refine iteP_intro (fun hb => ?_) (fun hb => ?_) <;> (conv => whnf)
    · have ha' : a < 2 * ms.length := by have := leT hb; omega
      have ha2 : a / 2 < ms.length := by omega
      have h63 := getD_lt hm ha2 (by omega)
      repeat (first | (refine opt_some (getC_rows rfl rfl (by omega)) ?_; conv => whnf) | (refine opt_some rfl ?_; conv => whnf) | (refine ⟨_, (by simp only [nf, nl, nm, en, ints, Nat.reduceAdd, Nat.reduceMul, hw]; exact rfl), ?_⟩; conv => whnf) | (refine ⟨_, pick_at rfl (by first | exact Nat.le_of_ble_eq_true rfl | rfl | exact plain_i64 _ | exact plain_ints _ | exact all_ints _ | omega | (dsimp only; omega) | (simp; done) | (simp only [htf] at *; first | omega | (simp; omega))), ?_⟩; conv => whnf) | (refine ⟨_, rfl, ?_⟩; conv => whnf) | (first | refine iteP_true rfl ?_ | refine iteP_false rfl ?_ | refine iteP_true ‹_› ?_ | refine iteP_false ‹_› ?_; conv => whnf) | (refine And.intro (by kernel_rfl : indep _ _ = true) ?_; conv => whnf) | (refine And.intro (by rfl : List.all _ _ = true) ?_; conv => whnf) | (refine And.intro (by first | exact Nat.le_of_ble_eq_true rfl | rfl | exact plain_i64 _ | exact plain_ints _ | exact all_ints _ | omega | (dsimp only; omega) | (simp; done) | (simp only [htf] at *; first | omega | (simp; omega))) ?_; conv => whnf))
      refine ⟨fun k vs => ∃ b : Nat, b ≤ 2 * ms.length ∧ vs = [.one (.ptr [i64 ms.length, .shd (ints (natI ms))]), .one (.ptr [i64 0, nilS]), .one (.ptr [i64 (2 * ms.length : Nat), ints (natI (dblT ms a))]), .one (i64 a), .one (i64 (maskN (fun b => (ms.getD (a / 2) 0).testBit (b / 2)) b : Nat)), .one (i64 b)] ∧ k = 2 * ms.length - b, rfl, ⟨_, 0, by omega, ?_, rfl⟩, ?_⟩
      · simp only [ints, natI_length, dblT_length]; rfl
      · rintro k vs ⟨b, hb, rfl, rfl⟩
        have q1 : IntKind.i64.wrap ((a : Int).tdiv 2) = ((a / 2 : Nat) : Int) := by rw [show (a : Int).tdiv 2 = ((a / 2 : Nat) : Int) from rfl]; exact wrap_nat (by omega)
        have q2 : IntKind.i64.wrap ((b : Int).tdiv 2) = ((b / 2 : Nat) : Int) := by rw [show (b : Int).tdiv 2 = ((b / 2 : Nat) : Int) from rfl]; exact wrap_nat (by omega)
        repeat (first | (refine opt_some (getC_rows rfl rfl (by omega)) ?_; conv => whnf) | (refine opt_some rfl ?_; conv => whnf) | (refine ⟨_, (by simp only [nf, nl, nm, en, ints, Nat.reduceAdd, Nat.reduceMul, hw, q1, q2]; exact rfl), ?_⟩; conv => whnf) | (refine ⟨_, pick_at rfl (by first | exact Nat.le_of_ble_eq_true rfl | rfl | exact plain_i64 _ | exact plain_ints _ | exact all_ints _ | omega | (dsimp only; omega) | (simp; done) | (simp only [htf] at *; first | omega | (simp; omega))), ?_⟩; conv => whnf) | (refine ⟨_, rfl, ?_⟩; conv => whnf) | (first | refine iteP_true rfl ?_ | refine iteP_false rfl ?_ | refine iteP_true ‹_› ?_ | refine iteP_false ‹_› ?_; conv => whnf) | (refine And.intro (by kernel_rfl : indep _ _ = true) ?_; conv => whnf) | (refine And.intro (by rfl : List.all _ _ = true) ?_; conv => whnf) | (refine And.intro (by first | exact Nat.le_of_ble_eq_true rfl | rfl | exact plain_i64 _ | exact plain_ints _ | exact all_ints _ | omega | (dsimp only; omega) | (simp; done) | (simp only [htf] at *; first | omega | (simp; omega))) ?_; conv => whnf))
        refine iteP_intro (fun hb => ?_) (fun hb => ?_) <;> (conv => whnf)
        · have hb' : b < 2 * ms.length := by have := leT hb; omega
          have hpl := maskN_lt (fun b => (ms.getD (a / 2) 0).testBit (b / 2)) b
          have hpb : 2 ^ b < 2 ^ 62 := Nat.pow_lt_pow_right (by decide) (by omega)
          have hor := or_i64 (a := maskN (fun b => (ms.getD (a / 2) 0).testBit (b / 2)) b) (b := 2 ^ b) (by omega) (by omega)
          have hst := maskN_or (fun b => (ms.getD (a / 2) 0).testBit (b / 2)) b
          repeat (first | (refine opt_some (getC_rows rfl rfl (by omega)) ?_; conv => whnf) | (refine opt_some rfl ?_; conv => whnf) | (refine ⟨_, (by simp only [nf, nl, nm, en, ints, Nat.reduceAdd, Nat.reduceMul, hw, q1, q2]; exact rfl), ?_⟩; conv => whnf) | (refine ⟨_, pick_at rfl (by first | exact Nat.le_of_ble_eq_true rfl | rfl | exact plain_i64 _ | exact plain_ints _ | exact all_ints _ | omega | (dsimp only; omega) | (simp; done) | (simp only [htf] at *; first | omega | (simp; omega))), ?_⟩; conv => whnf) | (refine ⟨_, rfl, ?_⟩; conv => whnf) | (first | refine iteP_true rfl ?_ | refine iteP_false rfl ?_ | refine iteP_true ‹_› ?_ | refine iteP_false ‹_› ?_; conv => whnf) | (refine And.intro (by kernel_rfl : indep _ _ = true) ?_; conv => whnf) | (refine And.intro (by rfl : List.all _ _ = true) ?_; conv => whnf) | (refine And.intro (by first | exact Nat.le_of_ble_eq_true rfl | rfl | exact plain_i64 _ | exact plain_ints _ | exact all_ints _ | omega | (dsimp only; omega) | (simp; done) | (simp only [htf] at *; first | omega | (simp; omega))) ?_; conv => whnf))
          (refine ⟨_, l02Dep_ret _ ms (a / 2) (b / 2) ha2 (by omega) (by omega) hm, ?_⟩; conv => whnf)
          repeat (first | (refine opt_some (getC_rows rfl rfl (by omega)) ?_; conv => whnf) | (refine opt_some rfl ?_; conv => whnf) | (refine ⟨_, (by simp only [nf, nl, nm, en, ints, Nat.reduceAdd, Nat.reduceMul, hw, q1, q2]; exact rfl), ?_⟩; conv => whnf) | (refine ⟨_, pick_at rfl (by first | exact Nat.le_of_ble_eq_true rfl | rfl | exact plain_i64 _ | exact plain_ints _ | exact all_ints _ | omega | (dsimp only; omega) | (simp; done) | (simp only [htf] at *; first | omega | (simp; omega))), ?_⟩; conv => whnf) | (refine ⟨_, rfl, ?_⟩; conv => whnf) | (first | refine iteP_true rfl ?_ | refine iteP_false rfl ?_ | refine iteP_true ‹_› ?_ | refine iteP_false ‹_› ?_; conv => whnf) | (refine And.intro (by kernel_rfl : indep _ _ = true) ?_; conv => whnf) | (refine And.intro (by rfl : List.all _ _ = true) ?_; conv => whnf) | (refine And.intro (by first | exact Nat.le_of_ble_eq_true rfl | rfl | exact plain_i64 _ | exact plain_ints _ | exact all_ints _ | omega | (dsimp only; omega) | (simp; done) | (simp only [htf] at *; first | omega | (simp; omega))) ?_; conv => whnf))
          refine iteP_intro (fun hc => ?_) (fun hc => ?_) <;> (conv => whnf)
          · rw [if_pos hc] at hst
            repeat (first | (refine opt_some (getC_rows rfl rfl (by omega)) ?_; conv => whnf) | (refine opt_some rfl ?_; conv => whnf) | (refine ⟨_, (by simp only [nf, nl, nm, en, ints, Nat.reduceAdd, Nat.reduceMul, hw, q1, q2]; exact rfl), ?_⟩; conv => whnf) | (refine ⟨_, pick_at rfl (by first | exact Nat.le_of_ble_eq_true rfl | rfl | exact plain_i64 _ | exact plain_ints _ | exact all_ints _ | omega | (dsimp only; omega) | (simp; done) | (simp only [htf] at *; first | omega | (simp; omega))), ?_⟩; conv => whnf) | (refine ⟨_, rfl, ?_⟩; conv => whnf) | (first | refine iteP_true rfl ?_ | refine iteP_false rfl ?_ | refine iteP_true ‹_› ?_ | refine iteP_false ‹_› ?_; conv => whnf) | (refine And.intro (by kernel_rfl : indep _ _ = true) ?_; conv => whnf) | (refine And.intro (by rfl : List.all _ _ = true) ?_; conv => whnf) | (refine And.intro (by first | exact Nat.le_of_ble_eq_true rfl | rfl | exact plain_i64 _ | exact plain_ints _ | exact all_ints _ | omega | (dsimp only; omega) | (simp; done) | (simp only [htf] at *; first | omega | (simp; omega))) ?_; conv => whnf))
            (refine ⟨_, l01One_ret b (by omega), ?_⟩; conv => whnf)
            repeat (first | (refine opt_some (getC_rows rfl rfl (by omega)) ?_; conv => whnf) | (refine opt_some rfl ?_; conv => whnf) | (refine ⟨_, (by simp only [nf, nl, nm, en, ints, Nat.reduceAdd, Nat.reduceMul, hw, q1, q2, hor]; exact rfl), ?_⟩; conv => whnf) | (refine ⟨_, pick_at rfl (by first | exact Nat.le_of_ble_eq_true rfl | rfl | exact plain_i64 _ | exact plain_ints _ | exact all_ints _ | omega | (dsimp only; omega) | (simp; done) | (simp only [htf] at *; first | omega | (simp; omega))), ?_⟩; conv => whnf) | (refine ⟨_, rfl, ?_⟩; conv => whnf) | (first | refine iteP_true rfl ?_ | refine iteP_false rfl ?_ | refine iteP_true ‹_› ?_ | refine iteP_false ‹_› ?_; conv => whnf) | (refine And.intro (by kernel_rfl : indep _ _ = true) ?_; conv => whnf) | (refine And.intro (by rfl : List.all _ _ = true) ?_; conv => whnf) | (refine And.intro (by first | exact Nat.le_of_ble_eq_true rfl | rfl | exact plain_i64 _ | exact plain_ints _ | exact all_ints _ | omega | (dsimp only; omega) | (simp; done) | (simp only [htf] at *; first | omega | (simp; omega))) ?_; conv => whnf))
            refine ⟨_, ?_, b + 1, hb', ?_, rfl⟩
            · omega
            · rw [wrap_succ (by omega), hst]
              simp only [ints, natI_length, dblT_length]; rfl
          · rw [if_neg (by rw [hc]; simp), Nat.or_zero] at hst
            repeat (first | (refine opt_some (getC_rows rfl rfl (by omega)) ?_; conv => whnf) | (refine opt_some rfl ?_; conv => whnf) | (refine ⟨_, (by simp only [nf, nl, nm, en, ints, Nat.reduceAdd, Nat.reduceMul, hw, q1, q2]; exact rfl), ?_⟩; conv => whnf) | (refine ⟨_, pick_at rfl (by first | exact Nat.le_of_ble_eq_true rfl | rfl | exact plain_i64 _ | exact plain_ints _ | exact all_ints _ | omega | (dsimp only; omega) | (simp; done) | (simp only [htf] at *; first | omega | (simp; omega))), ?_⟩; conv => whnf) | (refine ⟨_, rfl, ?_⟩; conv => whnf) | (first | refine iteP_true rfl ?_ | refine iteP_false rfl ?_ | refine iteP_true ‹_› ?_ | refine iteP_false ‹_› ?_; conv => whnf) | (refine And.intro (by kernel_rfl : indep _ _ = true) ?_; conv => whnf) | (refine And.intro (by rfl : List.all _ _ = true) ?_; conv => whnf) | (refine And.intro (by first | exact Nat.le_of_ble_eq_true rfl | rfl | exact plain_i64 _ | exact plain_ints _ | exact all_ints _ | omega | (dsimp only; omega) | (simp; done) | (simp only [htf] at *; first | omega | (simp; omega))) ?_; conv => whnf))
            refine ⟨_, ?_, b + 1, hb', ?_, rfl⟩
            · omega
            · rw [wrap_succ (by omega), hst]
              simp only [ints, natI_length, dblT_length]; rfl
        · obtain rfl : b = 2 * ms.length := by have := leF hb; omega
          repeat (first | (refine opt_some (getC_rows rfl rfl (by omega)) ?_; conv => whnf) | (refine opt_some rfl ?_; conv => whnf) | (refine ⟨_, (by simp only [nf, nl, nm, en, ints, Nat.reduceAdd, Nat.reduceMul, hw, q1, q2]; exact rfl), ?_⟩; conv => whnf) | (refine ⟨_, pick_at rfl (by first | exact Nat.le_of_ble_eq_true rfl | rfl | exact plain_i64 _ | exact plain_ints _ | exact all_ints _ | omega | (dsimp only; omega) | (simp; done) | (simp only [htf] at *; first | omega | (simp; omega))), ?_⟩; conv => whnf) | (refine ⟨_, rfl, ?_⟩; conv => whnf) | (first | refine iteP_true rfl ?_ | refine iteP_false rfl ?_ | refine iteP_true ‹_› ?_ | refine iteP_false ‹_› ?_; conv => whnf) | (refine And.intro (by kernel_rfl : indep _ _ = true) ?_; conv => whnf) | (refine And.intro (by rfl : List.all _ _ = true) ?_; conv => whnf) | (refine And.intro (by first | exact Nat.le_of_ble_eq_true rfl | rfl | exact plain_i64 _ | exact plain_ints _ | exact all_ints _ | omega | (dsimp only; omega) | (simp; done) | (simp only [htf] at *; first | omega | (simp; omega))) ?_; conv => whnf))
          refine ⟨_, ?_, a + 1, ha', ?_, rfl⟩
          · omega
          · rw [wrap_succ (by omega), dblT_succ]
            simp only [ints, natI_length, dblT_length, List.length_append, natI, List.map_append]; rfl
    · obtain rfl : a = 2 * ms.length := by have := leF hb; omega
      repeat' (first | (refine opt_some (getC_rows rfl rfl (by omega)) ?_; conv => whnf) | (refine opt_some rfl ?_; conv => whnf) | (refine ⟨_, (by simp only [nf, nl, nm, en, ints, Nat.reduceAdd, Nat.reduceMul]; exact rfl), ?_⟩; conv => whnf) | (refine ⟨_, pick_at rfl (by first | exact Nat.le_of_ble_eq_true rfl | rfl | exact plain_i64 _ | exact plain_ints _ | exact all_ints _ | omega | (dsimp only; omega) | (simp; done) | (simp only [htf] at *; first | omega | (simp; omega))), ?_⟩; conv => whnf) | (refine ⟨_, rfl, ?_⟩; conv => whnf) | (first | refine iteP_true rfl ?_ | refine iteP_false rfl ?_ | refine iteP_true ‹_› ?_ | refine iteP_false ‹_› ?_; conv => whnf) | (refine And.intro (by kernel_rfl : indep _ _ = true) ?_; conv => whnf) | (refine And.intro (by rfl : List.all _ _ = true) ?_; conv => whnf) | (refine And.intro (by first | exact Nat.le_of_ble_eq_true rfl | rfl | exact plain_i64 _ | exact plain_ints _ | exact all_ints _ | omega | (dsimp only; omega) | (simp; done) | (simp only [htf] at *; first | omega | (simp; omega))) ?_; conv => whnf) | (refine iteP_intro (fun hb => ?_) (fun hb => ?_) <;> (conv => whnf)))
      unfold dblN
      simp only [ints, natI_length, dblT_length]
      rfl
theorem dblN_lt {ms : List Nat} : ∀ m ∈ dblN ms, m < 2 ^ (dblN ms).length := fun m hm => by
  rw [dblN_length]
  unfold dblN dblT at hm
  obtain ⟨a, -, rfl⟩ := List.mem_map.1 hm
  exact dblM_lt _ _
theorem dblN_opp {ms : List Nat} (hs : ∀ a < ms.length, (ms.getD a 0).testBit a = true) {s : Nat} (h : s < (dblN ms).length) : ((dblN ms).getD s 0).testBit (opp s) = true := by
  rw [List.getD_eq_getElem?_getD, List.getElem?_eq_getElem h, Option.getD_some, dblN_get]
  rw [dblN_length] at h
  unfold dblM
  rw [maskN_bit, opp_div, hs _ (by omega), decide_eq_true (opp_lt h)]
  rfl
/-- What is remembered: for the letters barred and the number of letters, the count. -/
abbrev Memo := List ((Nat × Nat) × Nat)
def keyV (k : Nat × Nat) : Value := .agg #[.int .i64 k.1, .int .i64 k.2]
def memoC (es : Memo) : Cell := .mp false (es.map fun e => keyV e.1) (es.map fun e => i64 (e.2 : Nat))
def findM (k : Nat × Nat) : Memo → Option Nat
  | [] => none
  | e :: es => if e.1 = k then some e.2 else findM k es
def addM (k : Nat × Nat) (v : Nat) : Memo → Memo
  | [] => [(k, v)]
  | e :: es => if e.1 = k then (e.1, v) :: es else e :: addM k v es
theorem keyEq_V (a b : Nat × Nat) : keyEq (keyV a) (keyV b) = decide (b = a) := by
  obtain ⟨a1, a2⟩ := a
  obtain ⟨b1, b2⟩ := b
  have : keyEq (keyV (a1, a2)) (keyV (b1, b2)) = (((a1 : Int) == b1) && (((a2 : Int) == b2) && true)) := by simp [keyEq, keyV, keyEq.go]
  rw [this]
  by_cases h1 : b1 = a1 <;> by_cases h2 : b2 = a2 <;> simp [h1, h2, Prod.ext_iff] <;> omega
theorem getM_memo (k : Nat × Nat) : ∀ es : Memo, getM (keyV k) (es.map fun e => keyV e.1) (es.map fun e => i64 (e.2 : Nat)) = (findM k es).map fun v => i64 (v : Nat)
  | [] => rfl
  | e :: es => by
    have ih := getM_memo k es
    unfold getM at ih ⊢
    simp only [List.map_cons, findK, findM, keyEq_V]
    by_cases h : e.1 = k
    · simp [h]
    · rw [if_neg (by simpa using h), if_neg h, ← ih]
      cases findK (keyV k) (es.map fun e => keyV e.1) <;> simp
theorem put_memo (k : Nat × Nat) (v : Nat) : ∀ es : Memo, putK (keyV k) (es.map fun e => keyV e.1) = (addM k v es).map (fun e => keyV e.1) ∧ putM (keyV k) (es.map fun e => keyV e.1) (i64 (v : Nat)) (es.map fun e => i64 (e.2 : Nat)) = (addM k v es).map fun e => i64 (e.2 : Nat)
  | [] => ⟨rfl, rfl⟩
  | e :: es => by
    have ih := put_memo k v es
    unfold putK putM at ih ⊢
    simp only [List.map_cons, findK, addM, keyEq_V]
    by_cases h : e.1 = k
    · simp [h]
    · rw [if_neg (by simpa using h), if_neg h]
      cases hf : findK (keyV k) (es.map fun e => keyV e.1) with
      | none => rw [hf] at ih; simpa using ih
      | some i => rw [hf] at ih; simpa using ih
def Known (D : List Nat) (es : Memo) : Prop := ∀ e ∈ es, e.2 = cnt D e.1.2 e.1.1
theorem find_known {D : List Nat} {k : Nat × Nat} {v : Nat} : ∀ {es : Memo}, Known D es → findM k es = some v → v = cnt D k.2 k.1
  | [], _, h => by cases h
  | e :: es, hk, h => by
    unfold findM at h
    split at h
    · rename_i he
      cases h
      rw [← he]
      exact hk e (by simp)
    · exact find_known (fun x hx => hk x (by simp [hx])) h
theorem add_known {D : List Nat} {k : Nat × Nat} {v : Nat} (hv : v = cnt D k.2 k.1) : ∀ {es : Memo}, Known D es → Known D (addM k v es)
  | [], _ => fun x hx => by
    obtain rfl := List.mem_singleton.1 hx
    exact hv
  | e :: es, hk => by
    unfold addM
    split
    · rename_i he
      intro x hx
      rcases List.mem_cons.1 hx with rfl | hx
      · simp only; rw [he]; exact hv
      · exact hk x (by simp [hx])
    · intro x hx
      rcases List.mem_cons.1 hx with rfl | hx
      · exact hk _ (by simp)
      · exact add_known hv (fun x hx => hk x (by simp [hx])) x hx
/-- A loop that carries a state. -/
def loopN {σ : Type} (f : Nat → σ → σ) : Nat → σ → σ
  | 0, st => st
  | i + 1, st => f i (loopN f i st)
/-- The count with what it remembers. -/
def goM (D : List Nat) : Nat → Nat → Memo → Nat × Memo
  | 0, _, es => (1, es)
  | n + 1, shut, es => match findM (shut, n + 1) es with
    | some v => (v, es)
    | none =>
      let r := loopN (fun s (st : Nat × Memo) => if shut.testBit s then st else (min (st.1 + (goM D n (nxt D shut s) st.2).1) 1000000000000001, (goM D n (nxt D shut s) st.2).2)) D.length (0, es)
      (r.1, addM (shut, n + 1) r.1 r.2)
def goS (D : List Nat) (n shut : Nat) (es : Memo) (i : Nat) : Nat × Memo := loopN (fun s (st : Nat × Memo) => if shut.testBit s then st else (min (st.1 + (goM D n (nxt D shut s) st.2).1) 1000000000000001, (goM D n (nxt D shut s) st.2).2)) i (0, es)
theorem min_cast (a : Nat) : (if (1000000000000001 : Int) < (a : Int) then (1000000000000001 : Int) else (a : Int)) = ((min a 1000000000000001 : Nat) : Int) := by split <;> omega
theorem goS_succ (D : List Nat) (n shut : Nat) (es : Memo) (i : Nat) : goS D n shut es (i + 1) = if shut.testBit i then goS D n shut es i else (min ((goS D n shut es i).1 + (goM D n (nxt D shut i) (goS D n shut es i).2).1) 1000000000000001, (goM D n (nxt D shut i) (goS D n shut es i).2).2) := rfl
theorem goS_known0 {D : List Nat} {n : Nat} (ih : ∀ shut es, Known D es → (goM D n shut es).1 = cnt D n shut ∧ Known D (goM D n shut es).2) {shut : Nat} {es : Memo} (h : Known D es) : ∀ i, (goS D n shut es i).1 = min (sumN (trm D n shut) i) 1000000000000001 ∧ Known D (goS D n shut es i).2
  | 0 => ⟨by simp [goS, loopN, sumN], h⟩
  | i + 1 => by
    have ihi := goS_known0 ih (shut := shut) h i
    rw [goS_succ, sumN, trm]
    split
    · exact ⟨by rw [ihi.1, Nat.add_zero], ihi.2⟩
    · obtain ⟨e1, e2⟩ := ih (nxt D shut i) _ ihi.2
      refine ⟨?_, e2⟩
      simp only
      rw [e1, ihi.1]
      omega
theorem goM_known (D : List Nat) : ∀ n shut es, Known D es → (goM D n shut es).1 = cnt D n shut ∧ Known D (goM D n shut es).2
  | 0, _, _, h => ⟨rfl, h⟩
  | n + 1, shut, es, h => by
    have hl := goS_known0 (goM_known D n) (shut := shut) h
    unfold goM
    split
    · rename_i v hv
      exact ⟨find_known h hv, h⟩
    · obtain ⟨e1, e2⟩ := hl D.length
      exact ⟨e1, add_known e1 e2⟩
theorem goS_known {D : List Nat} {n shut : Nat} {es : Memo} (h : Known D es) (i : Nat) : (goS D n shut es i).1 ≤ 1000000000000001 ∧ Known D (goS D n shut es i).2 := by
  obtain ⟨e1, e2⟩ := goS_known0 (goM_known D n) (shut := shut) h i
  exact ⟨by rw [e1]; exact Nat.min_le_right _ _, e2⟩
set_option maxHeartbeats 4000000 in
set_option maxRecDepth 100000 in
theorem count_ret (D : List Nat) (L : Nat) (hD : D.length = 2 * L) (hL : L ≤ 8) (hm : ∀ m ∈ D, m < 2 ^ D.length) : ∀ (n : Nat), n ≤ 24 → ∀ (shut : Nat) (es : Memo), shut < 2 ^ D.length → Known D es →
    Ret Tryd.prog G0 51 [⟨.mu, .one (.ptr [ints (natI D), memoC es])⟩, ⟨.ro, .one (i64 shut)⟩, ⟨.ro, .one (i64 n)⟩] ⟨.one (i64 (goM D n shut es).1), [.one (.ptr [ints (natI D), memoC (goM D n shut es).2])]⟩ := by
  intro n
  induction n with
  | zero =>
    intro hn shut es hs hk
    unfold memoC
    (refine ret_of_den (E := en 66 [] (fun _ => [(1, 0), (2, 0), (7, 0), (10, 0), (32, 0), (33, 0), (0, 0), (66, 2)])) tt_ok mixed Tryd.func51 rfl rfl rfl rfl ?_; refine ⟨by simp, ?_⟩)
    repeat' (first | (refine opt_some (getC_rows rfl rfl (by omega)) ?_; conv => whnf) | (refine opt_some rfl ?_; conv => whnf) | (refine ⟨_, (by simp only [nf, nl, nm, en, ints, Nat.reduceAdd, Nat.reduceMul]; exact rfl), ?_⟩; conv => whnf) | (refine ⟨_, pick_at rfl (by first | exact Nat.le_of_ble_eq_true rfl | rfl | exact plain_i64 _ | exact plain_ints _ | exact all_ints _ | omega | (dsimp only; omega) | (simp; done) | (simp only [htf] at *; first | omega | (simp; omega))), ?_⟩; conv => whnf) | (refine ⟨_, rfl, ?_⟩; conv => whnf) | (first | refine iteP_true rfl ?_ | refine iteP_false rfl ?_ | refine iteP_true ‹_› ?_ | refine iteP_false ‹_› ?_; conv => whnf) | (refine And.intro (by kernel_rfl : indep _ _ = true) ?_; conv => whnf) | (refine And.intro (by rfl : List.all _ _ = true) ?_; conv => whnf) | (refine And.intro (by first | exact Nat.le_of_ble_eq_true rfl | rfl | exact plain_i64 _ | exact plain_ints _ | exact all_ints _ | omega | (dsimp only; omega) | (simp; done) | (simp only [htf] at *; first | omega | (simp; omega))) ?_; conv => whnf) | (refine iteP_intro (fun hb => ?_) (fun hb => ?_) <;> (conv => whnf)))
    rfl
  | succ n ih =>
    intro hn shut es hs hk
    unfold memoC
    (refine ret_of_den (E := en 66 [] (fun _ => [(1, 0), (2, 0), (7, 0), (10, 0), (32, 0), (33, 0), (0, 0), (66, 2)])) tt_ok mixed Tryd.func51 rfl rfl rfl rfl ?_; refine ⟨by simp, ?_⟩)
    have hne : (((n + 1 : Nat) : Int) == 0) = false := by simp; omega
    have hgl : (goM D (n + 1) shut es) = match findM (shut, n + 1) es with
      | some v => (v, es)
      | none => ((goS D n shut es D.length).1, addM (shut, n + 1) (goS D n shut es D.length).1 (goS D n shut es D.length).2) := rfl
    rw [hgl]
    have hnl := natI_length D
    repeat (first | (refine opt_some (getC_rows rfl rfl (by omega)) ?_; conv => whnf) | (refine opt_some rfl ?_; conv => whnf) | (refine ⟨_, (by simp only [nf, nl, nm, en, ints, Nat.reduceAdd, Nat.reduceMul]; exact rfl), ?_⟩; conv => whnf) | (refine ⟨_, pick_at rfl (by first | exact Nat.le_of_ble_eq_true rfl | rfl | exact plain_i64 _ | exact plain_ints _ | exact all_ints _ | omega | (dsimp only; omega) | (simp; done) | (simp only [htf] at *; first | omega | (simp; omega))), ?_⟩; conv => whnf) | (refine ⟨_, rfl, ?_⟩; conv => whnf) | (first | refine iteP_true rfl ?_ | refine iteP_false rfl ?_ | refine iteP_true ‹_› ?_ | refine iteP_false ‹_› ?_; conv => whnf) | (refine And.intro (by kernel_rfl : indep _ _ = true) ?_; conv => whnf) | (refine And.intro (by rfl : List.all _ _ = true) ?_; conv => whnf) | (refine And.intro (by first | exact Nat.le_of_ble_eq_true rfl | rfl | exact plain_i64 _ | exact plain_ints _ | exact all_ints _ | omega | (dsimp only; omega) | (simp; done) | (simp only [htf] at *; first | omega | (simp; omega))) ?_; conv => whnf))
    refine ⟨fun x hx => by obtain ⟨e, -, rfl⟩ := List.mem_map.1 hx; rfl, ?_⟩
    conv => whnf
    refine ⟨_, getM_memo (shut, n + 1) es, ?_⟩
    cases hf : findM (shut, n + 1) es with
    | some v =>
      refine optP.s ?_
      conv => whnf
      repeat' (first | (refine opt_some (getC_rows rfl rfl (by omega)) ?_; conv => whnf) | (refine opt_some rfl ?_; conv => whnf) | (refine ⟨_, (by simp only [nf, nl, nm, en, ints, Nat.reduceAdd, Nat.reduceMul]; exact rfl), ?_⟩; conv => whnf) | (refine ⟨_, pick_at rfl (by first | exact Nat.le_of_ble_eq_true rfl | rfl | exact plain_i64 _ | exact plain_ints _ | exact all_ints _ | omega | (dsimp only; omega) | (simp; done) | (simp only [htf] at *; first | omega | (simp; omega))), ?_⟩; conv => whnf) | (refine ⟨_, rfl, ?_⟩; conv => whnf) | (first | refine iteP_true rfl ?_ | refine iteP_false rfl ?_ | refine iteP_true ‹_› ?_ | refine iteP_false ‹_› ?_; conv => whnf) | (refine And.intro (by kernel_rfl : indep _ _ = true) ?_; conv => whnf) | (refine And.intro (by rfl : List.all _ _ = true) ?_; conv => whnf) | (refine And.intro (by first | exact Nat.le_of_ble_eq_true rfl | rfl | exact plain_i64 _ | exact plain_ints _ | exact all_ints _ | omega | (dsimp only; omega) | (simp; done) | (simp only [htf] at *; first | omega | (simp; omega))) ?_; conv => whnf) | (refine iteP_intro (fun hb => ?_) (fun hb => ?_) <;> (conv => whnf)))
      rfl
    | none =>
      refine optP.n ?_
      conv => whnf
      repeat (first | (refine opt_some (getC_rows rfl rfl (by omega)) ?_; conv => whnf) | (refine opt_some rfl ?_; conv => whnf) | (refine ⟨_, (by simp only [nf, nl, nm, en, ints, Nat.reduceAdd, Nat.reduceMul]; exact rfl), ?_⟩; conv => whnf) | (refine ⟨_, pick_at rfl (by first | exact Nat.le_of_ble_eq_true rfl | rfl | exact plain_i64 _ | exact plain_ints _ | exact all_ints _ | omega | (dsimp only; omega) | (simp; done) | (simp only [htf] at *; first | omega | (simp; omega))), ?_⟩; conv => whnf) | (refine ⟨_, rfl, ?_⟩; conv => whnf) | (first | refine iteP_true rfl ?_ | refine iteP_false rfl ?_ | refine iteP_true ‹_› ?_ | refine iteP_false ‹_› ?_; conv => whnf) | (refine And.intro (by kernel_rfl : indep _ _ = true) ?_; conv => whnf) | (refine And.intro (by rfl : List.all _ _ = true) ?_; conv => whnf) | (refine And.intro (by first | exact Nat.le_of_ble_eq_true rfl | rfl | exact plain_i64 _ | exact plain_ints _ | exact all_ints _ | omega | (dsimp only; omega) | (simp; done) | (simp only [htf] at *; first | omega | (simp; omega))) ?_; conv => whnf))
      (refine ⟨_, length_ret (natI D), ?_⟩; conv => whnf)
      repeat (first | (refine opt_some (getC_rows rfl rfl (by omega)) ?_; conv => whnf) | (refine opt_some rfl ?_; conv => whnf) | (refine ⟨_, (by simp only [nf, nl, nm, en, ints, Nat.reduceAdd, Nat.reduceMul]; exact rfl), ?_⟩; conv => whnf) | (refine ⟨_, pick_at rfl (by first | exact Nat.le_of_ble_eq_true rfl | rfl | exact plain_i64 _ | exact plain_ints _ | exact all_ints _ | omega | (dsimp only; omega) | (simp; done) | (simp only [htf] at *; first | omega | (simp; omega))), ?_⟩; conv => whnf) | (refine ⟨_, rfl, ?_⟩; conv => whnf) | (first | refine iteP_true rfl ?_ | refine iteP_false rfl ?_ | refine iteP_true ‹_› ?_ | refine iteP_false ‹_› ?_; conv => whnf) | (refine And.intro (by kernel_rfl : indep _ _ = true) ?_; conv => whnf) | (refine And.intro (by rfl : List.all _ _ = true) ?_; conv => whnf) | (refine And.intro (by first | exact Nat.le_of_ble_eq_true rfl | rfl | exact plain_i64 _ | exact plain_ints _ | exact all_ints _ | omega | (dsimp only; omega) | (simp; done) | (simp only [htf] at *; first | omega | (simp; omega))) ?_; conv => whnf))
      refine ⟨fun k vs => ∃ i : Nat, i ≤ D.length ∧ vs = [.one (i64 shut), .one (i64 (n + 1 : Nat)), .one (.ptr [i64 shut, i64 (n + 1 : Nat)]), .one (i64 (goS D n shut es i).1), .one (i64 (natI D).length), .one (i64 i), .one (.ptr [ints (natI D), memoC (goS D n shut es i).2]), .dead] ∧ k = D.length - i, rfl, ⟨_, 0, by omega, ?_, rfl⟩, ?_⟩
      · rfl
      · rintro k vs ⟨i, hi, rfl, rfl⟩
        unfold memoC
        repeat (first | (refine opt_some (getC_rows rfl rfl (by omega)) ?_; conv => whnf) | (refine opt_some rfl ?_; conv => whnf) | (refine ⟨_, (by simp only [nf, nl, nm, en, ints, Nat.reduceAdd, Nat.reduceMul]; exact rfl), ?_⟩; conv => whnf) | (refine ⟨_, pick_at rfl (by first | exact Nat.le_of_ble_eq_true rfl | rfl | exact plain_i64 _ | exact plain_ints _ | exact all_ints _ | omega | (dsimp only; omega) | (simp; done) | (simp only [htf] at *; first | omega | (simp; omega))), ?_⟩; conv => whnf) | (refine ⟨_, rfl, ?_⟩; conv => whnf) | (first | refine iteP_true rfl ?_ | refine iteP_false rfl ?_ | refine iteP_true ‹_› ?_ | refine iteP_false ‹_› ?_; conv => whnf) | (refine And.intro (by kernel_rfl : indep _ _ = true) ?_; conv => whnf) | (refine And.intro (by rfl : List.all _ _ = true) ?_; conv => whnf) | (refine And.intro (by first | exact Nat.le_of_ble_eq_true rfl | rfl | exact plain_i64 _ | exact plain_ints _ | exact all_ints _ | omega | (dsimp only; omega) | (simp; done) | (simp only [htf] at *; first | omega | (simp; omega))) ?_; conv => whnf))
        refine iteP_intro (fun hb => ?_) (fun hb => ?_) <;> (conv => whnf)
        · have hi' : i < D.length := by have := leT hb; omega
          have hs63 : shut < 2 ^ 63 := Nat.lt_of_lt_of_le hs (Nat.pow_le_pow_right (by decide) (by omega))
          obtain ⟨hc, hkn⟩ := goS_known (n := n) (shut := shut) hk i
          have hsucc := goS_succ D n shut es i
          repeat (first | (refine opt_some (getC_rows rfl rfl (by omega)) ?_; conv => whnf) | (refine opt_some rfl ?_; conv => whnf) | (refine ⟨_, (by simp only [nf, nl, nm, en, ints, Nat.reduceAdd, Nat.reduceMul]; exact rfl), ?_⟩; conv => whnf) | (refine ⟨_, pick_at rfl (by first | exact Nat.le_of_ble_eq_true rfl | rfl | exact plain_i64 _ | exact plain_ints _ | exact all_ints _ | omega | (dsimp only; omega) | (simp; done) | (simp only [htf] at *; first | omega | (simp; omega))), ?_⟩; conv => whnf) | (refine ⟨_, rfl, ?_⟩; conv => whnf) | (first | refine iteP_true rfl ?_ | refine iteP_false rfl ?_ | refine iteP_true ‹_› ?_ | refine iteP_false ‹_› ?_; conv => whnf) | (refine And.intro (by kernel_rfl : indep _ _ = true) ?_; conv => whnf) | (refine And.intro (by rfl : List.all _ _ = true) ?_; conv => whnf) | (refine And.intro (by first | exact Nat.le_of_ble_eq_true rfl | rfl | exact plain_i64 _ | exact plain_ints _ | exact all_ints _ | omega | (dsimp only; omega) | (simp; done) | (simp only [htf] at *; first | omega | (simp; omega))) ?_; conv => whnf))
          (refine ⟨_, has_ret shut i hs63 (by omega), ?_⟩; conv => whnf)
          repeat (first | (refine opt_some (getC_rows rfl rfl (by omega)) ?_; conv => whnf) | (refine opt_some rfl ?_; conv => whnf) | (refine ⟨_, (by simp only [nf, nl, nm, en, ints, Nat.reduceAdd, Nat.reduceMul]; exact rfl), ?_⟩; conv => whnf) | (refine ⟨_, pick_at rfl (by first | exact Nat.le_of_ble_eq_true rfl | rfl | exact plain_i64 _ | exact plain_ints _ | exact all_ints _ | omega | (dsimp only; omega) | (simp; done) | (simp only [htf] at *; first | omega | (simp; omega))), ?_⟩; conv => whnf) | (refine ⟨_, rfl, ?_⟩; conv => whnf) | (first | refine iteP_true rfl ?_ | refine iteP_false rfl ?_ | refine iteP_true ‹_› ?_ | refine iteP_false ‹_› ?_; conv => whnf) | (refine And.intro (by kernel_rfl : indep _ _ = true) ?_; conv => whnf) | (refine And.intro (by rfl : List.all _ _ = true) ?_; conv => whnf) | (refine And.intro (by first | exact Nat.le_of_ble_eq_true rfl | rfl | exact plain_i64 _ | exact plain_ints _ | exact all_ints _ | omega | (dsimp only; omega) | (simp; done) | (simp only [htf] at *; first | omega | (simp; omega))) ?_; conv => whnf))
          refine iteP_intro (fun hbit => ?_) (fun hbit => ?_) <;> (conv => whnf)
          · have hbit' : shut.testBit i = false := by simpa using hbit
            rw [if_neg (by rw [hbit']; simp)] at hsucc
            have hx : IntKind.i64.wrap ((BitVec.ofInt IntKind.i64.bits (i : Int) ^^^ BitVec.ofInt IntKind.i64.bits 1).toNat : Int) = ((opp i : Nat) : Int) := by
              have := xor_i64 (a := i) (b := 1) (by omega) (by omega)
              rw [← xor_one]
              exact this
            have hop := opp_lt (L := L) (s := i) (by omega)
            have hpo := pow_i64 (i := opp i) (by omega)
            have hor := or_i64 (a := andn (shut ||| (2 ^ i - 1)) (D.getD i 0)) (b := 2 ^ opp i) (andn_lt _ _) hpo
            have hn1 : IntKind.i64.wrap (((n + 1 : Nat) : Int) - 1) = (n : Int) := by rw [wrap_i64 (by omega) (by omega)]; omega
            have hnx : nxt D shut i < 2 ^ D.length := by rw [hD] at hs hi' ⊢; exact nxt_lt hL hs hi'
            obtain ⟨hr1, hr2⟩ := goM_known D n (nxt D shut i) _ hkn
            have hr3 := cnt_le D n (nxt D shut i)
            rw [← hr1] at hr3
            have hw : IntKind.i64.wrap (((goS D n shut es i).1 : Int) + ((goM D n (nxt D shut i) (goS D n shut es i).2).1 : Int)) = (((goS D n shut es i).1 + (goM D n (nxt D shut i) (goS D n shut es i).2).1 : Nat) : Int) := by rw [wrap_i64 (by omega) (by omega)]; omega
            repeat (first | (refine opt_some (getC_rows rfl rfl (by omega)) ?_; conv => whnf) | (refine opt_some rfl ?_; conv => whnf) | (refine ⟨_, (by simp only [nf, nl, nm, en, ints, Nat.reduceAdd, Nat.reduceMul]; exact rfl), ?_⟩; conv => whnf) | (refine ⟨_, pick_at rfl (by first | exact Nat.le_of_ble_eq_true rfl | rfl | exact plain_i64 _ | exact plain_ints _ | exact all_ints _ | omega | (dsimp only; omega) | (simp; done) | (simp only [htf] at *; first | omega | (simp; omega))), ?_⟩; conv => whnf) | (refine ⟨_, rfl, ?_⟩; conv => whnf) | (first | refine iteP_true rfl ?_ | refine iteP_false rfl ?_ | refine iteP_true ‹_› ?_ | refine iteP_false ‹_› ?_; conv => whnf) | (refine And.intro (by kernel_rfl : indep _ _ = true) ?_; conv => whnf) | (refine And.intro (by rfl : List.all _ _ = true) ?_; conv => whnf) | (refine And.intro (by first | exact Nat.le_of_ble_eq_true rfl | rfl | exact plain_i64 _ | exact plain_ints _ | exact all_ints _ | omega | (dsimp only; omega) | (simp; done) | (simp only [htf] at *; first | omega | (simp; omega))) ?_; conv => whnf))
            (refine ⟨_, forbidden_ret D shut i hi' (by omega) hm hs, ?_⟩; conv => whnf)
            repeat (first | (refine opt_some (getC_rows rfl rfl (by omega)) ?_; conv => whnf) | (refine opt_some rfl ?_; conv => whnf) | (refine ⟨_, (by simp only [nf, nl, nm, en, ints, Nat.reduceAdd, Nat.reduceMul, hx]; exact rfl), ?_⟩; conv => whnf) | (refine ⟨_, pick_at rfl (by first | exact Nat.le_of_ble_eq_true rfl | rfl | exact plain_i64 _ | exact plain_ints _ | exact all_ints _ | omega | (dsimp only; omega) | (simp; done) | (simp only [htf] at *; first | omega | (simp; omega))), ?_⟩; conv => whnf) | (refine ⟨_, rfl, ?_⟩; conv => whnf) | (first | refine iteP_true rfl ?_ | refine iteP_false rfl ?_ | refine iteP_true ‹_› ?_ | refine iteP_false ‹_› ?_; conv => whnf) | (refine And.intro (by kernel_rfl : indep _ _ = true) ?_; conv => whnf) | (refine And.intro (by rfl : List.all _ _ = true) ?_; conv => whnf) | (refine And.intro (by first | exact Nat.le_of_ble_eq_true rfl | rfl | exact plain_i64 _ | exact plain_ints _ | exact all_ints _ | omega | (dsimp only; omega) | (simp; done) | (simp only [htf] at *; first | omega | (simp; omega))) ?_; conv => whnf))
            (refine ⟨_, one_retN (opp i) (by omega), ?_⟩; conv => whnf)
            repeat (first | (refine opt_some (getC_rows rfl rfl (by omega)) ?_; conv => whnf) | (refine opt_some rfl ?_; conv => whnf) | (refine ⟨_, (by simp only [nf, nl, nm, en, ints, Nat.reduceAdd, Nat.reduceMul, hx, hor, hn1]; exact rfl), ?_⟩; conv => whnf) | (refine ⟨_, pick_at rfl (by first | exact Nat.le_of_ble_eq_true rfl | rfl | exact plain_i64 _ | exact plain_ints _ | exact all_ints _ | omega | (dsimp only; omega) | (simp; done) | (simp only [htf] at *; first | omega | (simp; omega))), ?_⟩; conv => whnf) | (refine ⟨_, rfl, ?_⟩; conv => whnf) | (first | refine iteP_true rfl ?_ | refine iteP_false rfl ?_ | refine iteP_true ‹_› ?_ | refine iteP_false ‹_› ?_; conv => whnf) | (refine And.intro (by kernel_rfl : indep _ _ = true) ?_; conv => whnf) | (refine And.intro (by rfl : List.all _ _ = true) ?_; conv => whnf) | (refine And.intro (by first | exact Nat.le_of_ble_eq_true rfl | rfl | exact plain_i64 _ | exact plain_ints _ | exact all_ints _ | omega | (dsimp only; omega) | (simp; done) | (simp only [htf] at *; first | omega | (simp; omega))) ?_; conv => whnf))
            refine ⟨_, ih (by omega) (nxt D shut i) (goS D n shut es i).2 hnx hkn, ?_⟩
            conv => whnf
            repeat (first | (refine opt_some (getC_rows rfl rfl (by omega)) ?_; conv => whnf) | (refine opt_some rfl ?_; conv => whnf) | (refine ⟨_, (by simp only [nf, nl, nm, en, ints, Nat.reduceAdd, Nat.reduceMul, hw, min_cast]; exact rfl), ?_⟩; conv => whnf) | (refine ⟨_, pick_at rfl (by first | exact Nat.le_of_ble_eq_true rfl | rfl | exact plain_i64 _ | exact plain_ints _ | exact all_ints _ | omega | (dsimp only; omega) | (simp; done) | (simp only [htf] at *; first | omega | (simp; omega))), ?_⟩; conv => whnf) | (refine ⟨_, rfl, ?_⟩; conv => whnf) | (first | refine iteP_true rfl ?_ | refine iteP_false rfl ?_ | refine iteP_true ‹_› ?_ | refine iteP_false ‹_› ?_; conv => whnf) | (refine And.intro (by kernel_rfl : indep _ _ = true) ?_; conv => whnf) | (refine And.intro (by rfl : List.all _ _ = true) ?_; conv => whnf) | (refine And.intro (by first | exact Nat.le_of_ble_eq_true rfl | rfl | exact plain_i64 _ | exact plain_ints _ | exact all_ints _ | omega | (dsimp only; omega) | (simp; done) | (simp only [htf] at *; first | omega | (simp; omega))) ?_; conv => whnf))
            refine ⟨_, ?_, i + 1, hi', ?_, rfl⟩
            · omega
            · rw [wrap_succ (by omega), hsucc]
              rfl
          · rw [if_pos (by simpa using hbit)] at hsucc
            repeat (first | (refine opt_some (getC_rows rfl rfl (by omega)) ?_; conv => whnf) | (refine opt_some rfl ?_; conv => whnf) | (refine ⟨_, (by simp only [nf, nl, nm, en, ints, Nat.reduceAdd, Nat.reduceMul]; exact rfl), ?_⟩; conv => whnf) | (refine ⟨_, pick_at rfl (by first | exact Nat.le_of_ble_eq_true rfl | rfl | exact plain_i64 _ | exact plain_ints _ | exact all_ints _ | omega | (dsimp only; omega) | (simp; done) | (simp only [htf] at *; first | omega | (simp; omega))), ?_⟩; conv => whnf) | (refine ⟨_, rfl, ?_⟩; conv => whnf) | (first | refine iteP_true rfl ?_ | refine iteP_false rfl ?_ | refine iteP_true ‹_› ?_ | refine iteP_false ‹_› ?_; conv => whnf) | (refine And.intro (by kernel_rfl : indep _ _ = true) ?_; conv => whnf) | (refine And.intro (by rfl : List.all _ _ = true) ?_; conv => whnf) | (refine And.intro (by first | exact Nat.le_of_ble_eq_true rfl | rfl | exact plain_i64 _ | exact plain_ints _ | exact all_ints _ | omega | (dsimp only; omega) | (simp; done) | (simp only [htf] at *; first | omega | (simp; omega))) ?_; conv => whnf))
            refine ⟨_, ?_, i + 1, hi', ?_, rfl⟩
            · omega
            · rw [wrap_succ (by omega), hsucc]
              rfl
        · obtain rfl : i = D.length := by have := leF hb; omega
          have hput := put_memo (shut, n + 1) (goS D n shut es D.length).1 (goS D n shut es D.length).2
          repeat (first | (refine opt_some (getC_rows rfl rfl (by omega)) ?_; conv => whnf) | (refine opt_some rfl ?_; conv => whnf) | (refine ⟨_, (by simp only [nf, nl, nm, en, ints, Nat.reduceAdd, Nat.reduceMul]; exact rfl), ?_⟩; conv => whnf) | (refine ⟨_, pick_at rfl (by first | exact Nat.le_of_ble_eq_true rfl | rfl | exact plain_i64 _ | exact plain_ints _ | exact all_ints _ | omega | (dsimp only; omega) | (simp; done) | (simp only [htf] at *; first | omega | (simp; omega))), ?_⟩; conv => whnf) | (refine ⟨_, rfl, ?_⟩; conv => whnf) | (first | refine iteP_true rfl ?_ | refine iteP_false rfl ?_ | refine iteP_true ‹_› ?_ | refine iteP_false ‹_› ?_; conv => whnf) | (refine And.intro (by kernel_rfl : indep _ _ = true) ?_; conv => whnf) | (refine And.intro (by rfl : List.all _ _ = true) ?_; conv => whnf) | (refine And.intro (by first | exact Nat.le_of_ble_eq_true rfl | rfl | exact plain_i64 _ | exact plain_ints _ | exact all_ints _ | omega | (dsimp only; omega) | (simp; done) | (simp only [htf] at *; first | omega | (simp; omega))) ?_; conv => whnf))
          refine ⟨fun x hx => by obtain ⟨e, -, rfl⟩ := List.mem_map.1 hx; rfl, ?_⟩
          conv => whnf
          repeat' (first | (refine opt_some (getC_rows rfl rfl (by omega)) ?_; conv => whnf) | (refine opt_some rfl ?_; conv => whnf) | (refine ⟨_, (by simp only [nf, nl, nm, en, ints, Nat.reduceAdd, Nat.reduceMul]; exact rfl), ?_⟩; conv => whnf) | (refine ⟨_, pick_at rfl (by first | exact Nat.le_of_ble_eq_true rfl | rfl | exact plain_i64 _ | exact plain_ints _ | exact all_ints _ | omega | (dsimp only; omega) | (simp; done) | (simp only [htf] at *; first | omega | (simp; omega))), ?_⟩; conv => whnf) | (refine ⟨_, rfl, ?_⟩; conv => whnf) | (first | refine iteP_true rfl ?_ | refine iteP_false rfl ?_ | refine iteP_true ‹_› ?_ | refine iteP_false ‹_› ?_; conv => whnf) | (refine And.intro (by kernel_rfl : indep _ _ = true) ?_; conv => whnf) | (refine And.intro (by rfl : List.all _ _ = true) ?_; conv => whnf) | (refine And.intro (by first | exact Nat.le_of_ble_eq_true rfl | rfl | exact plain_i64 _ | exact plain_ints _ | exact all_ints _ | omega | (dsimp only; omega) | (simp; done) | (simp only [htf] at *; first | omega | (simp; omega))) ?_; conv => whnf) | (refine iteP_intro (fun hb => ?_) (fun hb => ?_) <;> (conv => whnf)))
          dsimp only
          rw [← hput.1, ← hput.2]
          rfl
theorem alpha_nat {n : Int} {ds : List Int} (h : alphaOk n ds = true) : ∃ ms : List Nat, ds.map Int.toNat = ms ∧ n = ms.length ∧ ds = natI ms ∧ ms.length ≤ 8 ∧ (∀ m ∈ ms, m < 2 ^ ms.length) ∧ ∀ a < ms.length, (ms.getD a 0).testBit a = true ∧ ∀ b < ms.length, (ms.getD a 0).testBit b = (ms.getD b 0).testBit a := by
  unfold alphaOk at h
  simp only [Bool.and_eq_true, decide_eq_true_eq] at h
  obtain ⟨⟨⟨h1, h2⟩, h3⟩, h4⟩ := h
  obtain ⟨e1, e2⟩ := rel_nat h3
  refine ⟨_, rfl, by rw [List.length_map]; omega, e1, by rw [List.length_map]; omega, e2, symOk_iff.1 h4⟩
/-- What CountElements answers. -/
def cntR (n : Int) (ds : List Int) (m : Int) : Int × Int :=
  if alphaOk n ds then (if 0 ≤ m ∧ m ≤ 24 then (if cnt (dblN (ds.map Int.toNat)) m.toNat 0 > 1000000000000000 then (0, 3) else ((cnt (dblN (ds.map Int.toNat)) m.toNat 0 : Nat), 0)) else (0, 2)) else (0, 1)
/-- The numbers are small and the code is one of four. -/
theorem cntR_bad {n m : Int} {ds : List Int} (h : alphaOk n ds = false) : cntR n ds m = (0, 1) := by
  unfold cntR
  rw [if_neg (by rw [h]; simp)]
theorem cntR_out {n m : Int} {ds : List Int} (h : alphaOk n ds = true) (hm : ¬ (0 ≤ m ∧ m ≤ 24)) : cntR n ds m = (0, 2) := by
  unfold cntR
  rw [if_pos h, if_neg hm]
theorem cntR_in {n : Int} {k : Nat} {ds : List Int} {ms : List Nat} (h : alphaOk n ds = true) (hm : k ≤ 24) (he : ds.map Int.toNat = ms) : cntR n ds k = if cnt (dblN ms) k 0 > 1000000000000000 then ((0 : Int), (3 : Int)) else (((cnt (dblN ms) k 0 : Nat) : Int), 0) := by
  unfold cntR
  rw [if_pos h, if_pos (by omega), he, Int.toNat_natCast]
set_option maxHeartbeats 4000000 in
set_option maxRecDepth 100000 in
theorem countI_ret (n m : Int) (ds : List Int) (hd : ds.length < 2 ^ 62) : Ret Tryd.prog G0 26 [⟨.ro, .agg [i64 n, ints ds]⟩, ⟨.ro, .one (i64 m)⟩] ⟨.tup [(false, [i64 (cntR n ds m).1]), (false, [i64 (cntR n ds m).2])], []⟩ := by
  (refine ret_of_den (E := en 25 [] (fun _ => [])) tt_ok mixed Tryd.func26 rfl rfl rfl rfl ?_; refine ⟨by simp, ?_⟩)
  repeat' (first | (refine opt_some (getC_rows rfl rfl (by omega)) ?_; conv => whnf) | (refine opt_some rfl ?_; conv => whnf) | (refine ⟨_, (by simp only [nf, nl, nm, en, ints, Nat.reduceAdd, Nat.reduceMul]; exact rfl), ?_⟩; conv => whnf) | (refine ⟨_, pick_at rfl (by first | exact Nat.le_of_ble_eq_true rfl | rfl | exact plain_i64 _ | exact plain_ints _ | exact all_ints _ | omega | (dsimp only; omega) | (simp; done) | (simp only [htf] at *; first | omega | (simp; omega))), ?_⟩; conv => whnf) | (refine ⟨_, rfl, ?_⟩; conv => whnf) | (first | refine iteP_true rfl ?_ | refine iteP_false rfl ?_ | refine iteP_true ‹_› ?_ | refine iteP_false ‹_› ?_; conv => whnf) | (refine And.intro (by kernel_rfl : indep _ _ = true) ?_; conv => whnf) | (refine And.intro (by rfl : List.all _ _ = true) ?_; conv => whnf) | (refine And.intro (by first | exact Nat.le_of_ble_eq_true rfl | rfl | exact plain_i64 _ | exact plain_ints _ | exact all_ints _ | omega | (dsimp only; omega) | (simp; done) | (simp only [htf] at *; first | omega | (simp; omega))) ?_; conv => whnf) | (refine iteP_intro (fun hb => ?_) (fun hb => ?_) <;> (conv => whnf)))
  (refine ⟨_, isAlpha_ret n ds hd, ?_⟩; conv => whnf)
  repeat' (first | (refine opt_some (getC_rows rfl rfl (by omega)) ?_; conv => whnf) | (refine opt_some rfl ?_; conv => whnf) | (refine ⟨_, (by simp only [nf, nl, nm, en, ints, Nat.reduceAdd, Nat.reduceMul]; exact rfl), ?_⟩; conv => whnf) | (refine ⟨_, pick_at rfl (by first | exact Nat.le_of_ble_eq_true rfl | rfl | exact plain_i64 _ | exact plain_ints _ | exact all_ints _ | omega | (dsimp only; omega) | (simp; done) | (simp only [htf] at *; first | omega | (simp; omega))), ?_⟩; conv => whnf) | (refine ⟨_, rfl, ?_⟩; conv => whnf) | (first | refine iteP_true rfl ?_ | refine iteP_false rfl ?_ | refine iteP_true ‹_› ?_ | refine iteP_false ‹_› ?_; conv => whnf) | (refine And.intro (by kernel_rfl : indep _ _ = true) ?_; conv => whnf) | (refine And.intro (by rfl : List.all _ _ = true) ?_; conv => whnf) | (refine And.intro (by first | exact Nat.le_of_ble_eq_true rfl | rfl | exact plain_i64 _ | exact plain_ints _ | exact all_ints _ | omega | (dsimp only; omega) | (simp; done) | (simp only [htf] at *; first | omega | (simp; omega))) ?_; conv => whnf) | (refine iteP_intro (fun hb => ?_) (fun hb => ?_) <;> (conv => whnf)))
  · rw [cntR_bad (by simpa using hb)]
    rfl
  have ha : alphaOk n ds = true := by simpa using hb
  (refine ⟨_, inRange_ret _ _ _, ?_⟩; conv => whnf)
  repeat' (first | (refine opt_some (getC_rows rfl rfl (by omega)) ?_; conv => whnf) | (refine opt_some rfl ?_; conv => whnf) | (refine ⟨_, (by simp only [nf, nl, nm, en, ints, Nat.reduceAdd, Nat.reduceMul]; exact rfl), ?_⟩; conv => whnf) | (refine ⟨_, pick_at rfl (by first | exact Nat.le_of_ble_eq_true rfl | rfl | exact plain_i64 _ | exact plain_ints _ | exact all_ints _ | omega | (dsimp only; omega) | (simp; done) | (simp only [htf] at *; first | omega | (simp; omega))), ?_⟩; conv => whnf) | (refine ⟨_, rfl, ?_⟩; conv => whnf) | (first | refine iteP_true rfl ?_ | refine iteP_false rfl ?_ | refine iteP_true ‹_› ?_ | refine iteP_false ‹_› ?_; conv => whnf) | (refine And.intro (by kernel_rfl : indep _ _ = true) ?_; conv => whnf) | (refine And.intro (by rfl : List.all _ _ = true) ?_; conv => whnf) | (refine And.intro (by first | exact Nat.le_of_ble_eq_true rfl | rfl | exact plain_i64 _ | exact plain_ints _ | exact all_ints _ | omega | (dsimp only; omega) | (simp; done) | (simp only [htf] at *; first | omega | (simp; omega))) ?_; conv => whnf) | (refine iteP_intro (fun hb => ?_) (fun hb => ?_) <;> (conv => whnf)))
  · rw [cntR_out ha (by simp at hb; omega)]
    rfl
  have hin : 0 ≤ m ∧ m ≤ 24 := by simpa using hb
  obtain ⟨ms, he, rfl, rfl, hl, hm, hs⟩ := alpha_nat ha
  obtain ⟨k, rfl⟩ : ∃ k : Nat, m = k := ⟨m.toNat, by omega⟩
  rw [cntR_in ha (by omega) he]
  have hkn : Known (dblN ms) [] := fun e h => by cases h
  have hg := (goM_known (dblN ms) k 0 [] hkn).1
  have hc := count_ret (dblN ms) ms.length (dblN_length ms) hl dblN_lt k (by omega) 0 [] (Nat.two_pow_pos _) hkn
  rw [hg] at hc
  (refine ⟨_, signedTies_ret ms.length ms hl hm, ?_⟩; conv => whnf)
  repeat' (first | (refine opt_some (getC_rows rfl rfl (by omega)) ?_; conv => whnf) | (refine opt_some rfl ?_; conv => whnf) | (refine ⟨_, (by simp only [nf, nl, nm, en, ints, Nat.reduceAdd, Nat.reduceMul]; exact rfl), ?_⟩; conv => whnf) | (refine ⟨_, pick_at rfl (by first | exact Nat.le_of_ble_eq_true rfl | rfl | exact plain_i64 _ | exact plain_ints _ | exact all_ints _ | omega | (dsimp only; omega) | (simp; done) | (simp only [htf] at *; first | omega | (simp; omega))), ?_⟩; conv => whnf) | (refine ⟨_, rfl, ?_⟩; conv => whnf) | (first | refine iteP_true rfl ?_ | refine iteP_false rfl ?_ | refine iteP_true ‹_› ?_ | refine iteP_false ‹_› ?_; conv => whnf) | (refine And.intro (by kernel_rfl : indep _ _ = true) ?_; conv => whnf) | (refine And.intro (by rfl : List.all _ _ = true) ?_; conv => whnf) | (refine And.intro (by first | exact Nat.le_of_ble_eq_true rfl | rfl | exact plain_i64 _ | exact plain_ints _ | exact all_ints _ | omega | (dsimp only; omega) | (simp; done) | (simp only [htf] at *; first | omega | (simp; omega))) ?_; conv => whnf) | (refine iteP_intro (fun hb => ?_) (fun hb => ?_) <;> (conv => whnf)))
  (refine ⟨_, hc, ?_⟩; conv => whnf)
  repeat' (first | (refine opt_some (getC_rows rfl rfl (by omega)) ?_; conv => whnf) | (refine opt_some rfl ?_; conv => whnf) | (refine ⟨_, (by simp only [nf, nl, nm, en, ints, Nat.reduceAdd, Nat.reduceMul]; exact rfl), ?_⟩; conv => whnf) | (refine ⟨_, pick_at rfl (by first | exact Nat.le_of_ble_eq_true rfl | rfl | exact plain_i64 _ | exact plain_ints _ | exact all_ints _ | omega | (dsimp only; omega) | (simp; done) | (simp only [htf] at *; first | omega | (simp; omega))), ?_⟩; conv => whnf) | (refine ⟨_, rfl, ?_⟩; conv => whnf) | (first | refine iteP_true rfl ?_ | refine iteP_false rfl ?_ | refine iteP_true ‹_› ?_ | refine iteP_false ‹_› ?_; conv => whnf) | (refine And.intro (by kernel_rfl : indep _ _ = true) ?_; conv => whnf) | (refine And.intro (by rfl : List.all _ _ = true) ?_; conv => whnf) | (refine And.intro (by first | exact Nat.le_of_ble_eq_true rfl | rfl | exact plain_i64 _ | exact plain_ints _ | exact all_ints _ | omega | (dsimp only; omega) | (simp; done) | (simp only [htf] at *; first | omega | (simp; omega))) ?_; conv => whnf) | (refine iteP_intro (fun hb => ?_) (fun hb => ?_) <;> (conv => whnf)))
  · rw [if_pos (by have := leT hb; omega)]
    rfl
  · rw [if_neg (by have := leF hb; omega)]
    rfl
/-- Tables of numbers. -/
def rowsC (t : List (List Nat)) : Cell := .sl false 1 t.length (t.map fun r => ints (natI r))
def setT (t : List (List Nat)) (i j v : Nat) : List (List Nat) := t.set i ((t.getD i []).set j v)
def atT (t : List (List Nat)) (i j : Nat) : Nat := (t.getD i []).getD j 0
theorem rows_store {t : List (List Nat)} {a b v : Nat} {w : Int} (ha : a < t.length) (hb : b < t[a].length) (hw : w = (v : Nat)) : setC [Cell.sl false 1 t.length (t.map fun r => Cell.sl false 1 (natI r).length ((natI r).map i64))] 0 (.sl false 1 (natI t[a]).length (splice ((natI t[a]).map i64) ((b : Int).toNat * 1) [.c (.int .i64 w)])) (some ((a : Int).toNat * 1)) =
    [.sl false 1 (setT t a b v).length ((setT t a b v).map fun r => Cell.sl false 1 (natI r).length ((natI r).map i64))] := by
  have hr : t.getD a [] = t[a] := by rw [List.getD_eq_getElem?_getD, List.getElem?_eq_getElem ha, Option.getD_some]
  rw [setC_rows (f := fun r => Cell.sl false 1 (natI r).length ((natI r).map i64)) (v := t[a].set b v) rfl rfl]
  · unfold setT
    rw [hr, List.length_set]
    rfl
  · subst hw
    rw [splice_at rfl (by rw [natI_length]; exact hb), natI_set, natI_length, natI_length, List.length_set]
/-- The count by a table. -/
def goT (D : List Nat) : Nat → Nat → List (List Nat) → Nat × List (List Nat)
  | 0, _, t => (1, t)
  | n + 1, mask, t => if atT t (n + 1) mask > 0 then (atT t (n + 1) mask - 1, t) else
    let r := loopN (fun s (st : Nat × List (List Nat)) => if mask.testBit s then st else (st.1 + (goT D n (nxt D mask s) st.2).1, (goT D n (nxt D mask s) st.2).2)) D.length (0, t)
    (min r.1 1000000000000001, setT r.2 (n + 1) mask (min r.1 1000000000000001 + 1))
def goR (D : List Nat) (n mask : Nat) (t : List (List Nat)) (i : Nat) : Nat × List (List Nat) := loopN (fun s (st : Nat × List (List Nat)) => if mask.testBit s then st else (st.1 + (goT D n (nxt D mask s) st.2).1, (goT D n (nxt D mask s) st.2).2)) i (0, t)
theorem goR_succ (D : List Nat) (n mask : Nat) (t : List (List Nat)) (i : Nat) : goR D n mask t (i + 1) = if mask.testBit i then goR D n mask t i else ((goR D n mask t i).1 + (goT D n (nxt D mask i) (goR D n mask t i).2).1, (goT D n (nxt D mask i) (goR D n mask t i).2).2) := rfl
/-- The table has N rows of M numbers, and what stands there is right. -/
def KnownT (D : List Nat) (N M : Nat) (t : List (List Nat)) : Prop := t.length = N ∧ (∀ r ∈ t, r.length = M) ∧ ∀ i < N, ∀ j < M, atT t i j = 0 ∨ atT t i j = cnt D i j + 1
theorem setT_known {D : List Nat} {N M i j : Nat} {t : List (List Nat)} (h : KnownT D N M t) (hi : i < N) (hj : j < M) : KnownT D N M (setT t i j (cnt D i j + 1)) := by
  obtain ⟨h1, h2, h3⟩ := h
  have hrow : (t.getD i []).length = M := by
    rw [List.getD_eq_getElem?_getD, List.getElem?_eq_getElem (by omega), Option.getD_some]
    exact h2 _ (List.getElem_mem _)
  refine ⟨by simp [setT, h1], fun r hr => ?_, fun a ha b hb => ?_⟩
  · rcases List.mem_or_eq_of_mem_set hr with h | h
    · exact h2 r h
    · rw [h, List.length_set, hrow]
  · have hat : atT (setT t i j (cnt D i j + 1)) a b = if a = i ∧ b = j then cnt D i j + 1 else atT t a b := by
      unfold atT setT
      have hit : i < t.length := by omega
      simp only [List.getD_eq_getElem?_getD, List.getElem?_set] at hrow ⊢
      by_cases e : i = a
      · subst e
        rw [if_pos rfl, if_pos hit, Option.getD_some, List.getElem?_set, hrow]
        by_cases e2 : j = b
        · subst e2; simp [hb]
        · rw [if_neg e2, if_neg (fun h => e2 h.2.symm)]
      · rw [if_neg e, if_neg (fun h => e h.1.symm)]
    rw [hat]
    split
    · rename_i e; rw [e.1, e.2]; exact .inr rfl
    · exact h3 a ha b hb
theorem goR_known0 {D : List Nat} {N M n L : Nat} (hD : D.length = 2 * L) (hL : L ≤ 8) (hM : M = 2 ^ (2 * L)) (ih : ∀ mask t, mask < M → KnownT D N M t → (goT D n mask t).1 = cnt D n mask ∧ KnownT D N M (goT D n mask t).2) {mask : Nat} {t : List (List Nat)} (hm : mask < M) (h : KnownT D N M t) : ∀ i, i ≤ D.length → (goR D n mask t i).1 = sumN (trm D n mask) i ∧ KnownT D N M (goR D n mask t i).2
  | 0, _ => ⟨rfl, h⟩
  | i + 1, hi => by
    have ihi := goR_known0 hD hL hM ih hm h i (by omega)
    rw [goR_succ, sumN, trm]
    split
    · exact ⟨by rw [ihi.1, Nat.add_zero], ihi.2⟩
    · obtain ⟨e1, e2⟩ := ih (nxt D mask i) _ (by rw [hM] at hm ⊢; exact nxt_lt hL hm (by omega)) ihi.2
      exact ⟨by simp only; rw [e1, ihi.1], e2⟩
theorem goT_known {D : List Nat} {N M L : Nat} (hD : D.length = 2 * L) (hL : L ≤ 8) (hM : M = 2 ^ (2 * L)) : ∀ n, n < N → ∀ mask t, mask < M → KnownT D N M t → (goT D n mask t).1 = cnt D n mask ∧ KnownT D N M (goT D n mask t).2
  | 0, _, _, _, _, h => ⟨rfl, h⟩
  | n + 1, hn, mask, t, hm, h => by
    have hl := goR_known0 hD hL hM (goT_known hD hL hM n (by omega)) hm h D.length (Nat.le_refl _)
    unfold goT
    split
    · rename_i hv
      exact ⟨by rcases h.2.2 (n + 1) hn mask hm with h0 | h0 <;> simp only <;> omega, h⟩
    · obtain ⟨e1, e2⟩ := hl
      have e3 : min (goR D n mask t D.length).1 1000000000000001 = cnt D (n + 1) mask := by rw [e1, cnt_succ]
      refine ⟨e3, ?_⟩
      show KnownT D N M (setT (goR D n mask t D.length).2 (n + 1) mask (min (goR D n mask t D.length).1 1000000000000001 + 1))
      rw [e3]
      exact setT_known e2 hn hm
theorem goR_known {D : List Nat} {N M L n : Nat} (hD : D.length = 2 * L) (hL : L ≤ 8) (hM : M = 2 ^ (2 * L)) (hn : n < N) {mask : Nat} {t : List (List Nat)} (hm : mask < M) (h : KnownT D N M t) {i : Nat} (hi : i ≤ D.length) : (goR D n mask t i).1 ≤ i * 1000000000000001 ∧ KnownT D N M (goR D n mask t i).2 := by
  obtain ⟨e1, e2⟩ := goR_known0 hD hL hM (goT_known hD hL hM n hn) hm h i hi
  exact ⟨by rw [e1]; exact sumN_le (trm_le D n mask) i, e2⟩
end Go.Proofs.YthlnahomjdcbeaaDoor
