import Derived.Test.YtihdeagknggeiaaDoorFl
set_option autoImplicit false
set_option linter.unusedSimpArgs false
set_option linter.unusedVariables false
namespace Go.Proofs.YtihdeagknggeiaaDoor
open Go.Den
theorem wd_lt {ms w : List Nat} (hw : Wd ms w) {i : Nat} (hi : i < w.length) : w.getD i 0 < ms.length := by
  rw [List.getD_eq_getElem?_getD, List.getElem?_eq_getElem hi, Option.getD_some]
  exact hw _ (List.getElem_mem hi)
theorem take_succ_getD {w : List Nat} {i : Nat} (hi : i < w.length) : w.take (i + 1) = w.take i ++ [w.getD i 0] := by
  rw [List.take_succ_eq_append_getElem hi, List.getD_eq_getElem?_getD, List.getElem?_eq_getElem hi, Option.getD_some]
theorem take_add_one_len (w : List Nat) : w.take w.length = w := List.take_length
theorem natI_take (w : List Nat) (i : Nat) : (natI w).take i = natI (w.take i) := by simp [natI, List.map_take]
theorem natI_drop (w : List Nat) (i : Nat) : (natI w).drop i = natI (w.drop i) := by simp [natI, List.map_drop]
theorem natI_append (u v : List Nat) : natI (u ++ v) = natI u ++ natI v := by simp [natI]
theorem natI_inj : ∀ {u v : List Nat}, natI u = natI v → u = v
  | [], [], _ => rfl
  | [], _ :: _, h => by simp [natI] at h
  | _ :: _, [], h => by simp [natI] at h
  | a :: u, b :: v, h => by
    simp only [natI, List.map_cons, List.cons.injEq] at h
    rw [Int.natCast_inj.1 h.1, natI_inj (u := u) (v := v) h.2]
theorem pow_lt_63 {n : Nat} (h : n ≤ 62) : 2 ^ n < 2 ^ 63 := Nat.pow_lt_pow_right (by decide) (by omega)
theorem maskN_lt63 (p : Nat → Bool) {n : Nat} (h : n ≤ 62) : maskN p n < 2 ^ 63 := Nat.lt_of_lt_of_le (maskN_lt p n) (Nat.pow_le_pow_right (by decide) (by omega))
/-- The set of the letters that can be taken away from the front. -/
def fstM (ms w : List Nat) : Nat := maskN (fun a => canF ms a w) ms.length
/-- The set of the letters that some letter depends on. -/
def blkM (ms w : List Nat) : Nat := maskN (fun a => w.any fun b => dep ms b a) ms.length
set_option maxHeartbeats 16000000 in
set_option maxRecDepth 100000 in
theorem fstM_nil (ms : List Nat) : fstM ms [] = 0 := by
  refine Nat.eq_of_testBit_eq fun i => ?_
  simp [fstM, maskN_bit, canF]
set_option maxHeartbeats 16000000 in
set_option maxRecDepth 100000 in
theorem blkM_nil (ms : List Nat) : blkM ms [] = 0 := by
  refine Nat.eq_of_testBit_eq fun i => ?_
  simp [blkM, maskN_bit]
theorem blkM_bit {ms : List Nat} (w : List Nat) {c : Nat} (hc : c < ms.length) : (blkM ms w).testBit c = w.any fun b => dep ms b c := by
  unfold blkM
  rw [maskN_bit, decide_eq_true hc, Bool.true_and]
theorem fstM_snoc {ms : List Nat} (w : List Nat) {c : Nat} (hc : c < ms.length) : fstM ms (w ++ [c]) = if (blkM ms w).testBit c then fstM ms w else fstM ms w ||| 2 ^ c := by
  rw [blkM_bit w hc]
  refine Nat.eq_of_testBit_eq fun i => ?_
  have key : (fstM ms (w ++ [c])).testBit i = (decide (i < ms.length) && (canF ms i w || (c == i && !w.any fun b => dep ms b i))) := by
    unfold fstM
    rw [maskN_bit, canF_snoc]
  rw [key]
  by_cases h : (w.any fun b => dep ms b c) = true
  · rw [if_pos h]
    unfold fstM
    rw [maskN_bit]
    by_cases e : c = i
    · subst e; rw [h]; simp
    · have : (c == i) = false := by simpa using e
      rw [this]; simp
  · rw [if_neg h, Nat.testBit_or, Nat.testBit_two_pow]
    unfold fstM
    rw [maskN_bit]
    by_cases e : c = i
    · subst e
      rw [Bool.not_eq_true] at h
      rw [h]; simp [hc]
    · have : (c == i) = false := by simpa using e
      rw [this]; simp [e]
theorem blkM_snoc {ms : List Nat} (hm : ∀ m ∈ ms, m < 2 ^ ms.length) (w : List Nat) {c : Nat} (hc : c < ms.length) : blkM ms (w ++ [c]) = blkM ms w ||| ms.getD c 0 := by
  refine Nat.eq_of_testBit_eq fun i => ?_
  rw [Nat.testBit_or]
  unfold blkM
  rw [maskN_bit, maskN_bit]
  simp only [List.any_append, List.any_cons, List.any_nil, Bool.or_false]
  by_cases hi : i < ms.length
  · simp [hi, dep]
  · have : (ms.getD c 0).testBit i = false := by
      rw [List.getD_eq_getElem?_getD, List.getElem?_eq_getElem hc, Option.getD_some]
      exact Nat.testBit_lt_two_pow (Nat.lt_of_lt_of_le (hm _ (List.getElem_mem hc)) (Nat.pow_le_pow_right (by decide) (by omega)))
    rw [this]
    simp [hi]
theorem getD_lt' {ms : List Nat} (hm : ∀ m ∈ ms, m < 2 ^ ms.length) (hl : ms.length ≤ 62) {c : Nat} (hc : c < ms.length) : ms.getD c 0 < 2 ^ 63 := by
  rw [List.getD_eq_getElem?_getD, List.getElem?_eq_getElem hc, Option.getD_some]
  exact Nat.lt_of_lt_of_le (hm _ (List.getElem_mem hc)) (Nat.pow_le_pow_right (by decide) (by omega))
set_option maxHeartbeats 16000000 in
set_option maxRecDepth 100000 in
theorem firsts_ret (ms w : List Nat) (hl : ms.length ≤ 16) (hm : ∀ m ∈ ms, m < 2 ^ ms.length) (hw : Wd ms w) (hx : w.length < 2 ^ 40) : Ret Tryd.prog G0 115 [⟨.ro, .one (ints (natI ms))⟩, ⟨.ro, .one (ints (natI w))⟩] ⟨.one (i64 (fstM ms w : Nat)), []⟩ := by
  have hml := natI_length ms
  have hwl := natI_length w
  (refine ret_of_den (E := en 31 [] (fun _ => [(5, 0), (6, 0), (10, 0), (11, 0), (0, 1), (9, 1)]) (fun _ => [])) tt_ok mixed Tryd.func115 rfl rfl rfl rfl ?_; refine ⟨by simp, ?_⟩)
  repeat' (first | ((first | refine opt_some (getC_rows rfl rfl (by omega)) ?_ | refine opt_some (by dsimp only; exact getC_lent rfl rfl (by omega)) ?_ | refine opt_some rfl ?_ | refine ⟨_, (by simp only [nf, nl, nm, en, ints, setC_setC, Nat.reduceAdd, Nat.reduceMul]; exact rfl), ?_⟩ | refine ⟨_, pickT rfl, ?_⟩ | refine ⟨_, rfl, ?_⟩ | refine iteP_true rfl ?_ | refine iteP_false rfl ?_ | refine iteP_true ‹_› ?_ | refine iteP_false ‹_› ?_ | refine andK ?_ | refine andA ?_ | refine andT ?_); conv => whnf) | (refine iteP_intro (fun hb => ?_) (fun hb => ?_) <;> (conv => whnf)))
  refine ⟨fun k vs => ∃ i : Nat, i ≤ w.length ∧ vs = [.one (i64 (fstM ms (w.take i) : Nat)), .one (i64 (blkM ms (w.take i) : Nat)), .one (i64 w.length), .one (i64 i), .one (.shd (ints (natI ms))), .one (.shd (ints (natI w)))] ∧ k = w.length - i, rfl, ⟨_, 0, by omega, ?_, rfl⟩, ?_⟩
  · rw [List.take_zero, fstM_nil, blkM_nil, ← hwl]; rfl
  rintro k vs ⟨i, hi, rfl, rfl⟩
  repeat (first | ((first | refine opt_some (getC_rows rfl rfl (by omega)) ?_ | refine opt_some (by dsimp only; exact getC_lent rfl rfl (by omega)) ?_ | refine opt_some rfl ?_ | refine ⟨_, (by simp only [nf, nl, nm, en, ints, setC_setC, Nat.reduceAdd, Nat.reduceMul]; exact rfl), ?_⟩ | refine ⟨_, pickT rfl, ?_⟩ | refine ⟨_, rfl, ?_⟩ | refine iteP_true rfl ?_ | refine iteP_false rfl ?_ | refine iteP_true ‹_› ?_ | refine iteP_false ‹_› ?_ | refine andK ?_ | refine andA ?_ | refine andT ?_); conv => whnf))
  refine iteP_intro (fun hb => ?_) (fun hb => ?_) <;> (conv => whnf)
  · have hi' : i < w.length := by have := leT hb; omega
    have hg : (natI w)[i]'(by rw [hwl]; exact hi') = ((w.getD i 0 : Nat) : Int) := natI_getD hi'
    have hc := wd_lt hw hi'
    have hts := take_succ_getD hi'
    generalize w.getD i 0 = c at hg hc hts
    have hf := fstM_snoc (w.take i) hc
    have hbl := blkM_snoc hm (w.take i) hc
    have hf63 := maskN_lt63 (fun a => canF ms a (w.take i)) (n := ms.length) (by omega)
    have hb63 := maskN_lt63 (fun a => (w.take i).any fun b => dep ms b a) (n := ms.length) (by omega)
    have hgc : (natI ms)[c]'(by rw [hml]; exact hc) = ((ms.getD c 0 : Nat) : Int) := natI_getD hc
    have hm63 := getD_lt' hm (by omega) hc
    have ho1 := or_i64 (a := fstM ms (w.take i)) (b := 2 ^ c) hf63 (pow_lt_63 (by omega))
    have ho2 := or_i64 (a := blkM ms (w.take i)) (b := ms.getD c 0) hb63 hm63
    have hb63' : blkM ms (w.take i) < 2 ^ 63 := hb63
    generalize blkM ms (w.take i) = B at hf hbl ho2 hb63'
    generalize fstM ms (w.take i) = A at hf ho1
    repeat (first | ((first | refine opt_some (getC_rows rfl rfl (by omega)) ?_ | refine opt_some (by dsimp only; exact getC_lent rfl rfl (by omega)) ?_ | refine opt_some rfl ?_ | refine ⟨_, (by simp only [nf, nl, nm, en, ints, setC_setC, Nat.reduceAdd, Nat.reduceMul, hg]; exact rfl), ?_⟩ | refine ⟨_, pickT rfl, ?_⟩ | refine ⟨_, rfl, ?_⟩ | refine iteP_true rfl ?_ | refine iteP_false rfl ?_ | refine iteP_true ‹_› ?_ | refine iteP_false ‹_› ?_ | refine andK ?_ | refine andA ?_ | refine andT ?_); conv => whnf))
    (refine ⟨_, has_ret B c hb63' (by omega), ?_⟩; conv => whnf)
    repeat (first | ((first | refine opt_some (getC_rows rfl rfl (by omega)) ?_ | refine opt_some (by dsimp only; exact getC_lent rfl rfl (by omega)) ?_ | refine opt_some rfl ?_ | refine ⟨_, (by simp only [nf, nl, nm, en, ints, setC_setC, Nat.reduceAdd, Nat.reduceMul, hg]; exact rfl), ?_⟩ | refine ⟨_, pickT rfl, ?_⟩ | refine ⟨_, rfl, ?_⟩ | refine iteP_true rfl ?_ | refine iteP_false rfl ?_ | refine iteP_true ‹_› ?_ | refine iteP_false ‹_› ?_ | refine andK ?_ | refine andA ?_ | refine andT ?_); conv => whnf))
    refine iteP_intro (fun hbit => ?_) (fun hbit => ?_) <;> (conv => whnf)
    · rw [if_neg (by simpa using hbit)] at hf
      repeat (first | ((first | refine opt_some (getC_rows rfl rfl (by omega)) ?_ | refine opt_some (by dsimp only; exact getC_lent rfl rfl (by omega)) ?_ | refine opt_some rfl ?_ | refine ⟨_, (by simp only [nf, nl, nm, en, ints, setC_setC, Nat.reduceAdd, Nat.reduceMul, hg]; exact rfl), ?_⟩ | refine ⟨_, pickT rfl, ?_⟩ | refine ⟨_, rfl, ?_⟩ | refine iteP_true rfl ?_ | refine iteP_false rfl ?_ | refine iteP_true ‹_› ?_ | refine iteP_false ‹_› ?_ | refine andK ?_ | refine andA ?_ | refine andT ?_); conv => whnf))
      (refine ⟨_, one_retN c (by omega), ?_⟩; conv => whnf)
      repeat (first | ((first | refine opt_some (getC_rows rfl rfl (by omega)) ?_ | refine opt_some (by dsimp only; exact getC_lent rfl rfl (by omega)) ?_ | refine opt_some rfl ?_ | refine ⟨_, (by simp only [nf, nl, nm, en, ints, setC_setC, Nat.reduceAdd, Nat.reduceMul, hg, ho1, hgc, ho2]; exact rfl), ?_⟩ | refine ⟨_, pickT rfl, ?_⟩ | refine ⟨_, rfl, ?_⟩ | refine iteP_true rfl ?_ | refine iteP_false rfl ?_ | refine iteP_true ‹_› ?_ | refine iteP_false ‹_› ?_ | refine andK ?_ | refine andA ?_ | refine andT ?_); conv => whnf))
      refine ⟨_, ?_, i + 1, hi', ?_, rfl⟩
      · omega
      · rw [wrap_succ (by omega), hts, hf, hbl]
        rfl
    · rw [if_pos (by simpa using hbit)] at hf
      repeat (first | ((first | refine opt_some (getC_rows rfl rfl (by omega)) ?_ | refine opt_some (by dsimp only; exact getC_lent rfl rfl (by omega)) ?_ | refine opt_some rfl ?_ | refine ⟨_, (by simp only [nf, nl, nm, en, ints, setC_setC, Nat.reduceAdd, Nat.reduceMul, hg, ho1, hgc, ho2]; exact rfl), ?_⟩ | refine ⟨_, pickT rfl, ?_⟩ | refine ⟨_, rfl, ?_⟩ | refine iteP_true rfl ?_ | refine iteP_false rfl ?_ | refine iteP_true ‹_› ?_ | refine iteP_false ‹_› ?_ | refine andK ?_ | refine andA ?_ | refine andT ?_); conv => whnf))
      refine ⟨_, ?_, i + 1, hi', ?_, rfl⟩
      · omega
      · rw [wrap_succ (by omega), hts, hf, hbl]
        rfl
  · obtain rfl : i = w.length := by have := leF hb; omega
    repeat' (first | ((first | refine opt_some (getC_rows rfl rfl (by omega)) ?_ | refine opt_some (by dsimp only; exact getC_lent rfl rfl (by omega)) ?_ | refine opt_some rfl ?_ | refine ⟨_, (by simp only [nf, nl, nm, en, ints, setC_setC, Nat.reduceAdd, Nat.reduceMul]; exact rfl), ?_⟩ | refine ⟨_, pickT rfl, ?_⟩ | refine ⟨_, rfl, ?_⟩ | refine iteP_true rfl ?_ | refine iteP_false rfl ?_ | refine iteP_true ‹_› ?_ | refine iteP_false ‹_› ?_ | refine andK ?_ | refine andA ?_ | refine andT ?_); conv => whnf) | (refine iteP_intro (fun hb => ?_) (fun hb => ?_) <;> (conv => whnf)))
    rw [List.take_length]
    rfl
set_option maxHeartbeats 16000000 in
set_option maxRecDepth 100000 in
theorem grow_ret (m : Nat) (hm : m ≤ 2 ^ 40) : Ret Tryd.prog G0 149 [⟨.ro, .one nilS⟩, ⟨.ro, .one (i64 m)⟩] ⟨.one (ints []), []⟩ := by
  have h0 : decide ((m : Int) < 0) = false := decide_eq_false (by omega)
  have hw : IntKind.i64.wrap ((m : Int) - IntKind.i64.wrap (((0 : Nat) : Int) - ((0 : Nat) : Int))) = m := by
    rw [show IntKind.i64.wrap (((0 : Nat) : Int) - ((0 : Nat) : Int)) = 0 from rfl, Int.sub_zero]
    exact wrap_nat (by omega)
  rcases Nat.eq_zero_or_pos m with rfl | hp
  · refine Ret.relax (v := .one nilS) (os := []) ?_ (.one (.nil _ _)) (.refl _)
    (refine ret_of_den (E := en 27 [] (fun _ => []) (fun _ => [])) tt_ok mixed Tryd.func149 rfl rfl rfl rfl ?_; refine ⟨by simp, ?_⟩)
    repeat' (first | ((first | refine opt_some (getC_rows rfl rfl (by omega)) ?_ | refine opt_some (by dsimp only; exact getC_lent rfl rfl (by omega)) ?_ | refine opt_some rfl ?_ | refine ⟨_, (by simp only [nf, nl, nm, en, ints, setC_setC, Nat.reduceAdd, Nat.reduceMul]; exact rfl), ?_⟩ | refine ⟨_, pickT rfl, ?_⟩ | refine ⟨_, rfl, ?_⟩ | refine iteP_true rfl ?_ | refine iteP_false rfl ?_ | refine iteP_true ‹_› ?_ | refine iteP_false ‹_› ?_ | refine andK ?_ | refine andA ?_ | refine andT ?_); conv => whnf) | (refine iteP_intro (fun hb => ?_) (fun hb => ?_) <;> (conv => whnf)))
    rfl
  · have h1 : decide ((m : Int) > 0) = true := decide_eq_true (by omega)
    (refine ret_of_den (E := en 27 [1025] (fun _ => []) (fun _ => [])) tt_ok mixed Tryd.func149 rfl rfl rfl rfl ?_; refine ⟨by simp, ?_⟩)
    repeat' (first | ((first | refine opt_some (getC_rows rfl rfl (by omega)) ?_ | refine opt_some (by dsimp only; exact getC_lent rfl rfl (by omega)) ?_ | refine opt_some rfl ?_ | refine ⟨_, (by simp only [nf, nl, nm, en, ints, setC_setC, Nat.reduceAdd, Nat.reduceMul, hw]; exact rfl), ?_⟩ | refine ⟨_, pickT rfl, ?_⟩ | refine ⟨_, rfl, ?_⟩ | refine iteP_true rfl ?_ | refine iteP_false rfl ?_ | refine iteP_true ‹_› ?_ | refine iteP_false ‹_› ?_ | refine andK ?_ | refine andA ?_ | refine andT ?_); conv => whnf) | (refine iteP_intro (fun hb => ?_) (fun hb => ?_) <;> (conv => whnf)))
    rfl
/-- All rows, one behind the other. -/
theorem tot_flat (rs : List (List Int)) : rs.flatten.length = tot rs := by
  induction rs with
  | nil => rfl
  | cons r rs ih => simp [tot, ih]
theorem flat_take {rs : List (List Int)} {i : Nat} (hi : i < rs.length) : (rs.take (i + 1)).flatten = (rs.take i).flatten ++ rs[i] := by
  rw [List.take_succ_eq_append_getElem hi, List.flatten_append]
  simp
set_option maxHeartbeats 16000000 in
set_option maxRecDepth 100000 in
theorem concat_ret (rs : List (List Int)) (hl : rs.length ≤ 2 ^ 20) (ht : tot rs ≤ 2 ^ 40) : Ret Tryd.prog G0 139 [⟨.ro, .one (rowsI rs)⟩] ⟨.one (ints rs.flatten), []⟩ := by
  unfold rowsI
  (refine ret_of_den (E := en 36 [] (fun | 3 => [(3, 0), (10, 0), (11, 0), (0, 1), (9, 1)] | 11 => [(6, 0), (26, 0), (27, 0), (25, 1)] | _ => []) (fun _ => [])) tt_ok mixed Tryd.func139 rfl rfl rfl rfl ?_; refine ⟨by simp, ?_⟩)
  repeat' (first | ((first | refine opt_some (getC_rows rfl rfl (by omega)) ?_ | refine opt_some (by dsimp only; exact getC_lent rfl rfl (by omega)) ?_ | refine opt_some rfl ?_ | refine ⟨_, (by simp only [nf, nl, nm, en, ints, setC_setC, Nat.reduceAdd, Nat.reduceMul]; exact rfl), ?_⟩ | refine ⟨_, pickT rfl, ?_⟩ | refine ⟨_, rfl, ?_⟩ | refine iteP_true rfl ?_ | refine iteP_false rfl ?_ | refine iteP_true ‹_› ?_ | refine iteP_false ‹_› ?_ | refine andK ?_ | refine andA ?_ | refine andT ?_); conv => whnf) | (refine iteP_intro (fun hb => ?_) (fun hb => ?_) <;> (conv => whnf)))
  refine ⟨fun k vs => ∃ i : Nat, i ≤ rs.length ∧ vs = [.one (i64 (tot (rs.take i) : Nat)), .one (i64 rs.length), .one (i64 i), .one (.shd (.sl false 1 rs.length (rs.map ints))), .one (.shd (.sl false 1 rs.length (rs.map ints)))] ∧ k = rs.length - i, rfl, ⟨_, 0, by omega, rfl, rfl⟩, ?_⟩
  rintro k vs ⟨i, hi, rfl, rfl⟩
  repeat (first | ((first | refine opt_some (getC_rows rfl rfl (by omega)) ?_ | refine opt_some (by dsimp only; exact getC_lent rfl rfl (by omega)) ?_ | refine opt_some rfl ?_ | refine ⟨_, (by simp only [nf, nl, nm, en, ints, setC_setC, Nat.reduceAdd, Nat.reduceMul]; exact rfl), ?_⟩ | refine ⟨_, pickT rfl, ?_⟩ | refine ⟨_, rfl, ?_⟩ | refine iteP_true rfl ?_ | refine iteP_false rfl ?_ | refine iteP_true ‹_› ?_ | refine iteP_false ‹_› ?_ | refine andK ?_ | refine andA ?_ | refine andT ?_); conv => whnf))
  refine iteP_intro (fun hb => ?_) (fun hb => ?_) <;> (conv => whnf)
  · have hi' := ltT hb
    have hts := tot_take_succ hi'
    have htl := tot_take_le rs (i + 1)
    have hw : IntKind.i64.wrap (((tot (rs.take i) : Nat) : Int) + ((rs[i].length : Nat) : Int)) = ((tot (rs.take (i + 1)) : Nat) : Int) := by rw [wrap_i64 (by omega) (by omega)]; omega
    have h0 : decide (((tot (rs.take (i + 1)) : Nat) : Int) < 0) = false := decide_eq_false (by omega)
    generalize hx : tot (rs.take (i + 1)) = x at hts htl hw h0
    repeat (first | ((first | refine opt_some (getC_rows rfl rfl (by omega)) ?_ | refine opt_some (by dsimp only; exact getC_lent rfl rfl (by omega)) ?_ | refine opt_some rfl ?_ | refine ⟨_, (by simp only [nf, nl, nm, en, ints, setC_setC, Nat.reduceAdd, Nat.reduceMul, hw]; exact rfl), ?_⟩ | refine ⟨_, pickT rfl, ?_⟩ | refine ⟨_, rfl, ?_⟩ | refine iteP_true rfl ?_ | refine iteP_false rfl ?_ | refine iteP_true ‹_› ?_ | refine iteP_false ‹_› ?_ | refine andK ?_ | refine andA ?_ | refine andT ?_); conv => whnf))
    refine ⟨_, ?_, i + 1, hi', ?_, rfl⟩
    · omega
    · rw [wrap_succ (by omega), hx]
      rfl
  · obtain rfl : i = rs.length := Nat.le_antisymm hi (ltF hb)
    rw [List.take_length]
    repeat (first | ((first | refine opt_some (getC_rows rfl rfl (by omega)) ?_ | refine opt_some (by dsimp only; exact getC_lent rfl rfl (by omega)) ?_ | refine opt_some rfl ?_ | refine ⟨_, (by simp only [nf, nl, nm, en, ints, setC_setC, Nat.reduceAdd, Nat.reduceMul]; exact rfl), ?_⟩ | refine ⟨_, pickT rfl, ?_⟩ | refine ⟨_, rfl, ?_⟩ | refine iteP_true rfl ?_ | refine iteP_false rfl ?_ | refine iteP_true ‹_› ?_ | refine iteP_false ‹_› ?_ | refine andK ?_ | refine andA ?_ | refine andT ?_); conv => whnf))
    (refine ⟨_, grow_ret (tot rs) ht, ?_⟩; conv => whnf)
    repeat (first | ((first | refine opt_some (getC_rows rfl rfl (by omega)) ?_ | refine opt_some (by dsimp only; exact getC_lent rfl rfl (by omega)) ?_ | refine opt_some rfl ?_ | refine ⟨_, (by simp only [nf, nl, nm, en, ints, setC_setC, Nat.reduceAdd, Nat.reduceMul]; exact rfl), ?_⟩ | refine ⟨_, pickT rfl, ?_⟩ | refine ⟨_, rfl, ?_⟩ | refine iteP_true rfl ?_ | refine iteP_false rfl ?_ | refine iteP_true ‹_› ?_ | refine iteP_false ‹_› ?_ | refine andK ?_ | refine andA ?_ | refine andT ?_); conv => whnf))
    refine ⟨fun k vs => ∃ i : Nat, i ≤ rs.length ∧ vs = [.one (ints (rs.take i).flatten), .one (i64 rs.length), .one (i64 i), .one (.shd (.sl false 1 rs.length (rs.map ints)))] ∧ k = rs.length - i, rfl, ⟨_, 0, by omega, rfl, rfl⟩, ?_⟩
    rintro k vs ⟨i, hi, rfl, rfl⟩
    have hf := tot_flat (rs.take i)
    have htl := tot_take_le rs i
    repeat (first | ((first | refine opt_some (getC_rows rfl rfl (by omega)) ?_ | refine opt_some (by dsimp only; exact getC_lent rfl rfl (by omega)) ?_ | refine opt_some rfl ?_ | refine ⟨_, (by simp only [nf, nl, nm, en, ints, setC_setC, Nat.reduceAdd, Nat.reduceMul]; exact rfl), ?_⟩ | refine ⟨_, pickT rfl, ?_⟩ | refine ⟨_, rfl, ?_⟩ | refine iteP_true rfl ?_ | refine iteP_false rfl ?_ | refine iteP_true ‹_› ?_ | refine iteP_false ‹_› ?_ | refine andK ?_ | refine andA ?_ | refine andT ?_); conv => whnf))
    refine iteP_intro (fun hb => ?_) (fun hb => ?_) <;> (conv => whnf)
    · have hi' := ltT hb
      have hts := tot_take_succ hi'
      have htl' := tot_take_le rs (i + 1)
      have hfl := flat_take hi'
      repeat (first | ((first | refine opt_some (getC_rows rfl rfl (by omega)) ?_ | refine opt_some (by dsimp only; exact getC_lent rfl rfl (by omega)) ?_ | refine opt_some rfl ?_ | refine ⟨_, (by simp only [nf, nl, nm, en, ints, setC_setC, Nat.reduceAdd, Nat.reduceMul]; exact rfl), ?_⟩ | refine ⟨_, pickT rfl, ?_⟩ | refine ⟨_, rfl, ?_⟩ | refine iteP_true rfl ?_ | refine iteP_false rfl ?_ | refine iteP_true ‹_› ?_ | refine iteP_false ‹_› ?_ | refine andK ?_ | refine andA ?_ | refine andT ?_); conv => whnf))
      refine ⟨_, ?_, i + 1, hi', ?_, rfl⟩
      · omega
      · rw [wrap_succ (by omega), hfl]
        simp [ints, cvt, svLike]
    · obtain rfl : i = rs.length := Nat.le_antisymm hi (ltF hb)
      repeat' (first | ((first | refine opt_some (getC_rows rfl rfl (by omega)) ?_ | refine opt_some (by dsimp only; exact getC_lent rfl rfl (by omega)) ?_ | refine opt_some rfl ?_ | refine ⟨_, (by simp only [nf, nl, nm, en, ints, setC_setC, Nat.reduceAdd, Nat.reduceMul]; exact rfl), ?_⟩ | refine ⟨_, pickT rfl, ?_⟩ | refine ⟨_, rfl, ?_⟩ | refine iteP_true rfl ?_ | refine iteP_false rfl ?_ | refine iteP_true ‹_› ?_ | refine iteP_false ‹_› ?_ | refine andK ?_ | refine andA ?_ | refine andT ?_); conv => whnf) | (refine iteP_intro (fun hb => ?_) (fun hb => ?_) <;> (conv => whnf)))
      rw [List.take_length]
      rfl
theorem cut_hi {xs : List Int} {i : Nat} (h : i ≤ xs.length) : Cell.sl false 1 (i : Int).toNat ((xs.map i64).take ((i : Int).toNat * 1)) = ints (xs.take i) := by
  rw [Int.toNat_natCast, Nat.mul_one]
  unfold ints
  rw [List.length_take, Nat.min_eq_left h, List.map_take]
theorem cut_lo {xs : List Int} {i : Nat} : Cell.sl false 1 (xs.length - (i : Int).toNat) ((xs.map i64).drop ((i : Int).toNat * 1)) = ints (xs.drop i) := by
  rw [Int.toNat_natCast, Nat.mul_one]
  unfold ints
  rw [List.length_drop, List.map_drop]
theorem findI_erase {w : List Nat} {a : Nat} (h : a ∈ w) : ∃ i : Nat, i < w.length ∧ (∀ k : Int, findI ((a : Int) == ·) (natI w) k = k + i) ∧ w.take i ++ w.drop (i + 1) = w.erase a := by
  induction w with
  | nil => cases h
  | cons c w ih =>
    by_cases e : c = a
    · subst e
      exact ⟨0, by simp, fun k => by simp [natI, findI], by simp⟩
    · obtain ⟨i, h1, h2, h3⟩ := ih ((List.mem_cons.1 h).resolve_left (Ne.symm e))
      refine ⟨i + 1, by simpa using h1, fun k => ?_, ?_⟩
      · have : ((a : Int) == (c : Int)) = false := by simp; omega
        have h4 := h2 (k + 1)
        simp only [natI, List.map_cons, findI, this] at h4 ⊢
        rw [if_neg (by simp), h4]
        omega
      · rw [List.erase_cons_tail (by simpa using e), ← h3]
        simp
set_option maxHeartbeats 16000000 in
set_option maxRecDepth 100000 in
theorem without_ret (w : List Nat) (a : Nat) (hx : w.length ≤ 2 ^ 39) (ha : a ∈ w) : Ret Tryd.prog G0 116 [⟨.ro, .one (ints (natI w))⟩, ⟨.ro, .one (i64 a)⟩] ⟨.one (ints (natI (w.erase a))), []⟩ := by
  have hwl := natI_length w
  obtain ⟨i, h1, h2, h3⟩ := findI_erase ha
  have h2 := h2 0
  rw [Int.zero_add] at h2
  (refine ret_of_den (E := en 18 [] (fun _ => []) (fun _ => [])) tt_ok mixed Tryd.func116 rfl rfl rfl rfl ?_; refine ⟨by simp, ?_⟩)
  repeat' (first | ((first | refine opt_some (getC_rows rfl rfl (by omega)) ?_ | refine opt_some (by dsimp only; exact getC_lent rfl rfl (by omega)) ?_ | refine opt_some rfl ?_ | refine ⟨_, (by simp only [nf, nl, nm, en, ints, setC_setC, Nat.reduceAdd, Nat.reduceMul]; exact rfl), ?_⟩ | refine ⟨_, pickT rfl, ?_⟩ | refine ⟨_, rfl, ?_⟩ | refine iteP_true rfl ?_ | refine iteP_false rfl ?_ | refine iteP_true ‹_› ?_ | refine iteP_false ‹_› ?_ | refine andK ?_ | refine andA ?_ | refine andT ?_); conv => whnf) | (refine iteP_intro (fun hb => ?_) (fun hb => ?_) <;> (conv => whnf)))
  (refine ⟨_, index_ret (natI w) (a : Int) (by omega), ?_⟩; conv => whnf)
  have hw : IntKind.i64.wrap ((i : Int) + 1) = ((i + 1 : Nat) : Int) := wrap_succ (by omega)
  have hcc := concat_ret [natI (w.take i), natI (w.drop (i + 1))] (by simp) (by simp [tot, natI_length]; omega)
  rw [show [natI (w.take i), natI (w.drop (i + 1))].flatten = natI (w.erase a) by simp [← h3, natI_append]] at hcc
  have e1 : Cell.sl false 1 (i : Int).toNat (((natI w).map i64).take ((i : Int).toNat * 1)) = ints (natI (w.take i)) := by rw [cut_hi (by omega), natI_take]
  have e2 : Cell.sl false 1 ((natI w).length - ((i + 1 : Nat) : Int).toNat) (((natI w).map i64).drop (((i + 1 : Nat) : Int).toNat * 1)) = ints (natI (w.drop (i + 1))) := by rw [cut_lo, natI_drop]
  repeat (first | ((first | refine opt_some (getC_rows rfl rfl (by omega)) ?_ | refine opt_some (by dsimp only; exact getC_lent rfl rfl (by omega)) ?_ | refine opt_some rfl ?_ | refine ⟨_, (by simp only [nf, nl, nm, en, ints, setC_setC, Nat.reduceAdd, Nat.reduceMul, h2, hw, e1, e2]; exact rfl), ?_⟩ | refine ⟨_, pickT rfl, ?_⟩ | refine ⟨_, rfl, ?_⟩ | refine iteP_true rfl ?_ | refine iteP_false rfl ?_ | refine iteP_true ‹_› ?_ | refine iteP_false ‹_› ?_ | refine andK ?_ | refine andA ?_ | refine andT ?_); conv => whnf))
  (refine ⟨_, hcc, ?_⟩; conv => whnf)
  repeat' (first | ((first | refine opt_some (getC_rows rfl rfl (by omega)) ?_ | refine opt_some (by dsimp only; exact getC_lent rfl rfl (by omega)) ?_ | refine opt_some rfl ?_ | refine ⟨_, (by simp only [nf, nl, nm, en, ints, setC_setC, Nat.reduceAdd, Nat.reduceMul]; exact rfl), ?_⟩ | refine ⟨_, pickT rfl, ?_⟩ | refine ⟨_, rfl, ?_⟩ | refine iteP_true rfl ?_ | refine iteP_false rfl ?_ | refine iteP_true ‹_› ?_ | refine iteP_false ‹_› ?_ | refine andK ?_ | refine andA ?_ | refine andT ?_); conv => whnf) | (refine iteP_intro (fun hb => ?_) (fun hb => ?_) <;> (conv => whnf)))
  rfl
/-- The letters that can be taken away from the front. -/
def fsts (ms w : List Nat) : List Nat := (List.range ms.length).filter fun a => canF ms a w
theorem filter_range (p : Nat → Bool) (n : Nat) : ∀ d : Nat, ((List.range (n + d)).filter fun i => decide (i < n) && p i) = (List.range n).filter p
  | 0 => List.filter_congr fun i hi => by simp at hi; simp [hi]
  | d + 1 => by
    have h : decide (n + d < n) = false := decide_eq_false (by omega)
    rw [← Nat.add_assoc, List.range_succ, List.filter_append, filter_range p n d, List.filter_cons, h]
    simp
theorem mems_mask (p : Nat → Bool) {n : Nat} (hn : n ≤ 64) : mems (maskN p n) = (List.range n).filter p := by
  unfold mems
  rw [show (maskN p n).testBit = fun i => decide (i < n) && p i from funext fun i => maskN_bit p n i]
  have := filter_range p n (64 - n)
  rwa [show n + (64 - n) = 64 by omega] at this
theorem mems_fst {ms : List Nat} (w : List Nat) (hl : ms.length ≤ 64) : mems (fstM ms w) = fsts ms w := mems_mask _ hl
theorem fsts_head (ms w : List Nat) : (fsts ms w).head? = leastF ms w := List.head?_filter
theorem ctz_fst {ms w : List Nat} {a : Nat} (hl : ms.length ≤ 62) (h : leastF ms w = some a) : Lib.ctz 64 (fstM ms w) = a := by
  obtain ⟨h1, h2⟩ := leastF_some h
  have hb : (fstM ms w).testBit a = true := by
    unfold fstM
    rw [maskN_bit, decide_eq_true h1, h2]
    rfl
  have h0 : fstM ms w ≠ 0 := fun e => by rw [e, Nat.zero_testBit] at hb; cases hb
  have h63 := maskN_lt63 (fun a => canF ms a w) hl
  have := mems_step h0 (Nat.lt_trans (show fstM ms w < 2 ^ 63 from h63) (by decide))
  rw [mems_fst w (by omega)] at this
  have h3 := fsts_head ms w
  rw [this, h] at h3
  exact Option.some.inj h3
set_option maxHeartbeats 16000000 in
set_option maxRecDepth 100000 in
theorem ties_ret (n : Int) (ds : List Int) : Ret Tryd.prog G0 63 [⟨.ro, .agg [i64 n, ints ds]⟩] ⟨.one (.shd (ints ds)), []⟩ := by
  (refine ret_of_den (E := en 5 [] (fun _ => []) (fun _ => [])) tt_ok mixed Tryd.func63 rfl rfl rfl rfl ?_; refine ⟨by simp, ?_⟩)
  repeat' (first | ((first | refine opt_some (getC_rows rfl rfl (by omega)) ?_ | refine opt_some (by dsimp only; exact getC_lent rfl rfl (by omega)) ?_ | refine opt_some rfl ?_ | refine ⟨_, (by simp only [nf, nl, nm, en, ints, setC_setC, Nat.reduceAdd, Nat.reduceMul]; exact rfl), ?_⟩ | refine ⟨_, pickT rfl, ?_⟩ | refine ⟨_, rfl, ?_⟩ | refine iteP_true rfl ?_ | refine iteP_false rfl ?_ | refine iteP_true ‹_› ?_ | refine iteP_false ‹_› ?_ | refine andK ?_ | refine andA ?_ | refine andT ?_); conv => whnf) | (refine iteP_intro (fun hb => ?_) (fun hb => ?_) <;> (conv => whnf)))
  rfl
set_option maxHeartbeats 16000000 in
set_option maxRecDepth 100000 in
theorem checkW1_ret (n : Int) (ds w : List Int) (hx : w.length < 2 ^ 62) (h0 : 0 ≤ n) (hn : n < 2 ^ 62) : Ret Tryd.prog G0 113 [⟨.ro, .one (ints w)⟩, ⟨.ro, .one (.ptr [i64 n, ints ds])⟩] ⟨.one (.c (.bool (!wordN n w))), []⟩ := by
  (refine ret_of_den (E := en 8 [] (fun _ => []) (fun _ => [])) tt_ok mixed Tryd.func113 rfl rfl rfl rfl ?_; refine ⟨by simp, ?_⟩)
  repeat' (first | ((first | refine opt_some (getC_rows rfl rfl (by omega)) ?_ | refine opt_some (by dsimp only; exact getC_lent rfl rfl (by omega)) ?_ | refine opt_some rfl ?_ | refine ⟨_, (by simp only [nf, nl, nm, en, ints, setC_setC, Nat.reduceAdd, Nat.reduceMul]; exact rfl), ?_⟩ | refine ⟨_, pickT rfl, ?_⟩ | refine ⟨_, rfl, ?_⟩ | refine iteP_true rfl ?_ | refine iteP_false rfl ?_ | refine iteP_true ‹_› ?_ | refine iteP_false ‹_› ?_ | refine andK ?_ | refine andA ?_ | refine andT ?_); conv => whnf) | (refine iteP_intro (fun hb => ?_) (fun hb => ?_) <;> (conv => whnf)))
  (refine ⟨_, isWord_ret n ds w hx h0 hn, ?_⟩; conv => whnf)
  repeat' (first | ((first | refine opt_some (getC_rows rfl rfl (by omega)) ?_ | refine opt_some (by dsimp only; exact getC_lent rfl rfl (by omega)) ?_ | refine opt_some rfl ?_ | refine ⟨_, (by simp only [nf, nl, nm, en, ints, setC_setC, Nat.reduceAdd, Nat.reduceMul]; exact rfl), ?_⟩ | refine ⟨_, pickT rfl, ?_⟩ | refine ⟨_, rfl, ?_⟩ | refine iteP_true rfl ?_ | refine iteP_false rfl ?_ | refine iteP_true ‹_› ?_ | refine iteP_false ‹_› ?_ | refine andK ?_ | refine andA ?_ | refine andT ?_); conv => whnf) | (refine iteP_intro (fun hb => ?_) (fun hb => ?_) <;> (conv => whnf)))
  rfl
set_option maxHeartbeats 16000000 in
set_option maxRecDepth 100000 in
theorem indexFW_ret (cs : List Cell) (p : List Int → Bool) (ws : List (List Int)) (hw : ws.length < 2 ^ 62) (hp : ∀ w ∈ ws, Ret Tryd.prog G0 113 [⟨.ro, .one (ints w)⟩, ⟨.ro, .one (.ptr cs)⟩] ⟨.one (.c (.bool (p w))), []⟩) : Ret Tryd.prog G0 137 [⟨.ro, .one (rowsI ws)⟩, ⟨.ro, .one (.fn (.func 113) [.ptr cs])⟩] ⟨.one (i64 (findI p ws 0)), []⟩ := by
  unfold rowsI
  (refine ret_of_den (E := en 19 [] (fun _ => [(7, 0), (8, 0), (0, 1), (1, 1)]) (fun _ => [])) tt_ok mixed Tryd.func137 rfl rfl rfl rfl ?_; refine ⟨by simp, ?_⟩)
  repeat' (first | ((first | refine opt_some (getC_rows rfl rfl (by omega)) ?_ | refine opt_some (by dsimp only; exact getC_lent rfl rfl (by omega)) ?_ | refine opt_some rfl ?_ | refine ⟨_, (by simp only [nf, nl, nm, en, ints, setC_setC, Nat.reduceAdd, Nat.reduceMul]; exact rfl), ?_⟩ | refine ⟨_, pickT rfl, ?_⟩ | refine ⟨_, rfl, ?_⟩ | refine iteP_true rfl ?_ | refine iteP_false rfl ?_ | refine iteP_true ‹_› ?_ | refine iteP_false ‹_› ?_ | refine andK ?_ | refine andA ?_ | refine andT ?_); conv => whnf) | (refine iteP_intro (fun hb => ?_) (fun hb => ?_) <;> (conv => whnf)))
  refine ⟨fun k vs => ∃ i : Nat, i ≤ ws.length ∧ findI p ws 0 = findI p (ws.drop i) i ∧ vs = [.one (i64 ws.length), .one (i64 i), .one (.shd (.sl false 1 ws.length (ws.map ints))), .one (.shd (.fn (.func 113) [.ptr cs]))] ∧ k = ws.length - i, rfl, ?_, ?_⟩
  · exact ⟨_, 0, by omega, by simp, rfl, rfl⟩
  · rintro k vs ⟨i, hi, hf, rfl, rfl⟩
    repeat (first | ((first | refine opt_some (getC_rows rfl rfl (by omega)) ?_ | refine opt_some (by dsimp only; exact getC_lent rfl rfl (by omega)) ?_ | refine opt_some rfl ?_ | refine ⟨_, (by simp only [nf, nl, nm, en, ints, setC_setC, Nat.reduceAdd, Nat.reduceMul]; exact rfl), ?_⟩ | refine ⟨_, pickT rfl, ?_⟩ | refine ⟨_, rfl, ?_⟩ | refine iteP_true rfl ?_ | refine iteP_false rfl ?_ | refine iteP_true ‹_› ?_ | refine iteP_false ‹_› ?_ | refine andK ?_ | refine andA ?_ | refine andT ?_); conv => whnf))
    refine iteP_intro (fun hb => ?_) (fun hb => ?_) <;> (conv => whnf)
    · have hi' := ltT hb
      repeat (first | ((first | refine opt_some (getC_rows rfl rfl (by omega)) ?_ | refine opt_some (by dsimp only; exact getC_lent rfl rfl (by omega)) ?_ | refine opt_some rfl ?_ | refine ⟨_, (by simp only [nf, nl, nm, en, ints, setC_setC, Nat.reduceAdd, Nat.reduceMul]; exact rfl), ?_⟩ | refine ⟨_, pickT rfl, ?_⟩ | refine ⟨_, rfl, ?_⟩ | refine iteP_true rfl ?_ | refine iteP_false rfl ?_ | refine iteP_true ‹_› ?_ | refine iteP_false ‹_› ?_ | refine andK ?_ | refine andA ?_ | refine andT ?_); conv => whnf))
      (refine ⟨_, hp _ (List.getElem_mem hi'), ?_⟩; conv => whnf)
      repeat' (first | ((first | refine opt_some (getC_rows rfl rfl (by omega)) ?_ | refine opt_some (by dsimp only; exact getC_lent rfl rfl (by omega)) ?_ | refine opt_some rfl ?_ | refine ⟨_, (by simp only [nf, nl, nm, en, ints, setC_setC, Nat.reduceAdd, Nat.reduceMul]; exact rfl), ?_⟩ | refine ⟨_, pickT rfl, ?_⟩ | refine ⟨_, rfl, ?_⟩ | refine iteP_true rfl ?_ | refine iteP_false rfl ?_ | refine iteP_true ‹_› ?_ | refine iteP_false ‹_› ?_ | refine andK ?_ | refine andA ?_ | refine andT ?_); conv => whnf) | (refine iteP_intro (fun hb => ?_) (fun hb => ?_) <;> (conv => whnf)))
      · refine endI ?_
        rw [hf, findI_T hi' hb]
      · refine ⟨_, ?_, i + 1, hi', ?_, by rw [wrap_succ (by omega)]; rfl, rfl⟩
        · omega
        · rw [hf, findI_F hi' hb]
    · repeat' (first | ((first | refine opt_some (getC_rows rfl rfl (by omega)) ?_ | refine opt_some (by dsimp only; exact getC_lent rfl rfl (by omega)) ?_ | refine opt_some rfl ?_ | refine ⟨_, (by simp only [nf, nl, nm, en, ints, setC_setC, Nat.reduceAdd, Nat.reduceMul]; exact rfl), ?_⟩ | refine ⟨_, pickT rfl, ?_⟩ | refine ⟨_, rfl, ?_⟩ | refine iteP_true rfl ?_ | refine iteP_false rfl ?_ | refine iteP_true ‹_› ?_ | refine iteP_false ‹_› ?_ | refine andK ?_ | refine andA ?_ | refine andT ?_); conv => whnf) | (refine iteP_intro (fun hb => ?_) (fun hb => ?_) <;> (conv => whnf)))
      obtain rfl : i = ws.length := Nat.le_antisymm hi (ltF hb)
      refine endI ?_
      rw [hf]; simp [findI]
set_option maxHeartbeats 16000000 in
set_option maxRecDepth 100000 in
theorem containsFW_ret (cs : List Cell) (p : List Int → Bool) (ws : List (List Int)) (hw : ws.length < 2 ^ 62) (hp : ∀ w ∈ ws, Ret Tryd.prog G0 113 [⟨.ro, .one (ints w)⟩, ⟨.ro, .one (.ptr cs)⟩] ⟨.one (.c (.bool (p w))), []⟩) : Ret Tryd.prog G0 112 [⟨.ro, .one (rowsI ws)⟩, ⟨.ro, .one (.fn (.func 113) [.ptr cs])⟩] ⟨.one (.c (.bool (ws.any p))), []⟩ := by
  have hc := indexFW_ret cs p ws hw hp
  unfold rowsI at hc ⊢
  (refine ret_of_den (E := en 9 [] (fun _ => []) (fun _ => [])) tt_ok mixed Tryd.func112 rfl rfl rfl rfl ?_; refine ⟨by simp, ?_⟩)
  repeat' (first | ((first | refine opt_some (getC_rows rfl rfl (by omega)) ?_ | refine opt_some (by dsimp only; exact getC_lent rfl rfl (by omega)) ?_ | refine opt_some rfl ?_ | refine ⟨_, (by simp only [nf, nl, nm, en, ints, setC_setC, Nat.reduceAdd, Nat.reduceMul]; exact rfl), ?_⟩ | refine ⟨_, pickT rfl, ?_⟩ | refine ⟨_, rfl, ?_⟩ | refine iteP_true rfl ?_ | refine iteP_false rfl ?_ | refine iteP_true ‹_› ?_ | refine iteP_false ‹_› ?_ | refine andK ?_ | refine andA ?_ | refine andT ?_); conv => whnf) | (refine iteP_intro (fun hb => ?_) (fun hb => ?_) <;> (conv => whnf)))
  (refine ⟨_, hc, ?_⟩; conv => whnf)
  repeat' (first | ((first | refine opt_some (getC_rows rfl rfl (by omega)) ?_ | refine opt_some (by dsimp only; exact getC_lent rfl rfl (by omega)) ?_ | refine opt_some rfl ?_ | refine ⟨_, (by simp only [nf, nl, nm, en, ints, setC_setC, Nat.reduceAdd, Nat.reduceMul]; exact rfl), ?_⟩ | refine ⟨_, pickT rfl, ?_⟩ | refine ⟨_, rfl, ?_⟩ | refine iteP_true rfl ?_ | refine iteP_false rfl ?_ | refine iteP_true ‹_› ?_ | refine iteP_false ‹_› ?_ | refine andK ?_ | refine andA ?_ | refine andT ?_); conv => whnf) | (refine iteP_intro (fun hb => ?_) (fun hb => ?_) <;> (conv => whnf)))
  exact endB (findI_nonneg _ _ _ (Int.le_refl _))
set_option maxHeartbeats 16000000 in
set_option maxRecDepth 100000 in
theorem checkWords_ret (n : Int) (ds : List Int) (ws : List (List Int)) (hd : ds.length < 2 ^ 62) (hw : ws.length < 2 ^ 62) (hx : ∀ w ∈ ws, w.length < 2 ^ 62) : Ret Tryd.prog G0 78 [⟨.ro, .agg [i64 n, ints ds]⟩, ⟨.ro, .one (rowsI ws)⟩] ⟨.one (i64 (wcode (alphaOk n ds) (ws.all fun w => wordN n w))), []⟩ := by
  unfold rowsI
  (refine ret_of_den (E := en 11 [] (fun _ => []) (fun _ => [])) tt_ok mixed Tryd.func78 rfl rfl rfl rfl ?_; refine ⟨by simp, ?_⟩)
  repeat' (first | ((first | refine opt_some (getC_rows rfl rfl (by omega)) ?_ | refine opt_some (by dsimp only; exact getC_lent rfl rfl (by omega)) ?_ | refine opt_some rfl ?_ | refine ⟨_, (by simp only [nf, nl, nm, en, ints, setC_setC, Nat.reduceAdd, Nat.reduceMul]; exact rfl), ?_⟩ | refine ⟨_, pickT rfl, ?_⟩ | refine ⟨_, rfl, ?_⟩ | refine iteP_true rfl ?_ | refine iteP_false rfl ?_ | refine iteP_true ‹_› ?_ | refine iteP_false ‹_› ?_ | refine andK ?_ | refine andA ?_ | refine andT ?_); conv => whnf) | (refine iteP_intro (fun hb => ?_) (fun hb => ?_) <;> (conv => whnf)))
  (refine ⟨_, isAlpha_ret n ds hd, ?_⟩; conv => whnf)
  repeat' (first | ((first | refine opt_some (getC_rows rfl rfl (by omega)) ?_ | refine opt_some (by dsimp only; exact getC_lent rfl rfl (by omega)) ?_ | refine opt_some rfl ?_ | refine ⟨_, (by simp only [nf, nl, nm, en, ints, setC_setC, Nat.reduceAdd, Nat.reduceMul]; exact rfl), ?_⟩ | refine ⟨_, pickT rfl, ?_⟩ | refine ⟨_, rfl, ?_⟩ | refine iteP_true rfl ?_ | refine iteP_false rfl ?_ | refine iteP_true ‹_› ?_ | refine iteP_false ‹_› ?_ | refine andK ?_ | refine andA ?_ | refine andT ?_); conv => whnf) | (refine iteP_intro (fun hb => ?_) (fun hb => ?_) <;> (conv => whnf)))
  · refine endI ?_
    unfold wcode
    rw [if_neg (by simpa using hb)]
  · have ha : alphaOk n ds = true := by simpa using hb
    have hn := alphaOk_n ha
    have hc := containsFW_ret [i64 n, ints ds] (fun w => !wordN n w) ws hw (fun w hw => checkW1_ret n ds w (hx w hw) (by omega) (by omega))
    unfold rowsI at hc
    (refine ⟨_, hc, ?_⟩; conv => whnf)
    repeat' (first | ((first | refine opt_some (getC_rows rfl rfl (by omega)) ?_ | refine opt_some (by dsimp only; exact getC_lent rfl rfl (by omega)) ?_ | refine opt_some rfl ?_ | refine ⟨_, (by simp only [nf, nl, nm, en, ints, setC_setC, Nat.reduceAdd, Nat.reduceMul]; exact rfl), ?_⟩ | refine ⟨_, pickT rfl, ?_⟩ | refine ⟨_, rfl, ?_⟩ | refine iteP_true rfl ?_ | refine iteP_false rfl ?_ | refine iteP_true ‹_› ?_ | refine iteP_false ‹_› ?_ | refine andK ?_ | refine andA ?_ | refine andT ?_); conv => whnf) | (refine iteP_intro (fun hb => ?_) (fun hb => ?_) <;> (conv => whnf)))
    · refine endI ?_
      unfold wcode
      rw [if_pos ha, if_neg (by rw [List.all_eq_not_any_not, hb]; simp)]
    · refine endI ?_
      unfold wcode
      rw [if_pos ha, if_pos (by rw [List.all_eq_not_any_not, hb]; rfl)]
theorem word_nat {n : Int} {xs : List Int} (h : wordN n xs = true) : ∃ w : List Nat, xs.map Int.toNat = w ∧ xs = natI w ∧ w.length ≤ 24 ∧ ∀ c ∈ w, (c : Int) < n := by
  unfold wordN at h
  simp only [Bool.and_eq_true, decide_eq_true_eq, List.all_eq_true] at h
  refine ⟨_, rfl, ?_, by rw [List.length_map]; exact h.1, fun c hc => ?_⟩
  · unfold natI
    rw [List.map_map]
    conv => lhs; rw [← List.map_id xs]
    refine List.map_congr_left fun x hx => ?_
    have := (h.2 x hx).1
    simp only [id, Function.comp]
    omega
  · obtain ⟨x, hx, rfl⟩ := List.mem_map.1 hc
    have := h.2 x hx
    omega
theorem word_wd {ms w : List Nat} (h : ∀ c ∈ w, (c : Int) < (ms.length : Int)) : Wd ms w := fun c hc => by have := h c hc; omega
theorem alpha_of {ms : List Nat} (hl : ms.length ≤ 8) (hm : ∀ m ∈ ms, m < 2 ^ ms.length) (hs : ∀ a < ms.length, (ms.getD a 0).testBit a = true ∧ ∀ b < ms.length, (ms.getD a 0).testBit b = (ms.getD b 0).testBit a) : Alpha ms := by
  have hz : ∀ a b, ¬ (a < ms.length ∧ b < ms.length) → dep ms a b = false := fun a b h => by
    unfold dep
    by_cases ha : a < ms.length
    · have hb : ¬ b < ms.length := fun hb => h ⟨ha, hb⟩
      rw [List.getD_eq_getElem?_getD, List.getElem?_eq_getElem ha, Option.getD_some]
      exact Nat.testBit_lt_two_pow (Nat.lt_of_lt_of_le (hm _ (List.getElem_mem ha)) (Nat.pow_le_pow_right (by decide) (by omega)))
    · rw [List.getD_eq_getElem?_getD, List.getElem?_eq_none (by omega), Option.getD_none, Nat.zero_testBit]
  refine ⟨hm, fun a b => ?_, fun a ha => (hs a ha).1⟩
  by_cases h : a < ms.length ∧ b < ms.length
  · exact (hs a h.1).2 b h.2
  · rw [hz a b h, hz b a fun h' => h ⟨h'.2, h'.1⟩]
/-- An alphabet that is valid. -/
theorem alpha_ok {n : Int} {ds : List Int} (h : alphaOk n ds = true) : ∃ ms : List Nat, ds.map Int.toNat = ms ∧ n = ms.length ∧ ds = natI ms ∧ ms.length ≤ 8 ∧ Alpha ms := by
  obtain ⟨ms, h1, h2, h3, h4, h5, h6⟩ := alpha_nat h
  exact ⟨ms, h1, h2, h3, h4, alpha_of h4 h5 h6⟩
theorem wcode_t (b : Bool) : wcode true b = if b then 0 else 2 := rfl
theorem wcode_f (b : Bool) : wcode false b = 1 := rfl
end Go.Proofs.YtihdeagknggeiaaDoor
