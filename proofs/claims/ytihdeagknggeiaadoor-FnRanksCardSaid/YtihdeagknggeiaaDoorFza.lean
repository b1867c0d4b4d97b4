import Derived.Test.YtihdeagknggeiaaDoorFy
set_option autoImplicit false
set_option linter.unusedSimpArgs false
set_option linter.unusedVariables false
namespace Go.Proofs.YtihdeagknggeiaaDoor
open Go.Den
set_option maxHeartbeats 16000000 in
set_option maxRecDepth 100000 in
theorem ones_ret (m : Nat) (h : m < 256) : Ret Tryd.prog G0 135 [⟨.ro, .one (.c (.int .u64 m))⟩] ⟨.one (i64 ((popR 8 m : Nat) : Int)), []⟩ := by
  (refine ret_of_den (E := en 35 [] (fun _ => []) (fun _ => [])) tt_ok mixed Tryd.func135 rfl rfl rfl rfl ?_; refine ⟨by simp, ?_⟩)
  repeat' (first | ((first | refine opt_some (getC_rows rfl rfl (by omega)) ?_ | refine opt_some (by dsimp only; exact getC_lent rfl rfl (by omega)) ?_ | refine opt_some rfl ?_ | refine ⟨_, (by simp only [nf, nl, nm, en, ints, setC_setC, Nat.reduceAdd, Nat.reduceMul]; exact rfl), ?_⟩ | refine ⟨_, pickT rfl, ?_⟩ | refine ⟨_, rfl, ?_⟩ | refine iteP_true rfl ?_ | refine iteP_false rfl ?_ | refine iteP_true ‹_› ?_ | refine iteP_false ‹_› ?_ | refine andK ?_ | refine andA ?_ | refine andT ?_); conv => whnf) | (refine iteP_intro (fun hb => ?_) (fun hb => ?_) <;> (conv => whnf)))
  refine endI ?_
  revert m
  decide +kernel
set_option maxHeartbeats 16000000 in
set_option maxRecDepth 100000 in
theorem size_ret (m : Nat) (h : m < 256) : Ret Tryd.prog G0 106 [⟨.ro, .one (i64 m)⟩] ⟨.one (i64 ((popR 8 m : Nat) : Int)), []⟩ := by
  have hw : IntKind.u64.wrap (m : Int) = m := wrap_u64 (by omega) (by omega)
  (refine ret_of_den (E := en 6 [] (fun _ => []) (fun _ => [])) tt_ok mixed Tryd.func106 rfl rfl rfl rfl ?_; refine ⟨by simp, ?_⟩)
  repeat' (first | ((first | refine opt_some (getC_rows rfl rfl (by omega)) ?_ | refine opt_some (by dsimp only; exact getC_lent rfl rfl (by omega)) ?_ | refine opt_some rfl ?_ | refine ⟨_, (by simp only [nf, nl, nm, en, ints, setC_setC, Nat.reduceAdd, Nat.reduceMul, hw]; exact rfl), ?_⟩ | refine ⟨_, pickT rfl, ?_⟩ | refine ⟨_, rfl, ?_⟩ | refine iteP_true rfl ?_ | refine iteP_false rfl ?_ | refine iteP_true ‹_› ?_ | refine iteP_false ‹_› ?_ | refine andK ?_ | refine andA ?_ | refine andT ?_); conv => whnf) | (refine iteP_intro (fun hb => ?_) (fun hb => ?_) <;> (conv => whnf)))
  (refine ⟨_, ones_ret m h, ?_⟩; conv => whnf)
  repeat' (first | ((first | refine opt_some (getC_rows rfl rfl (by omega)) ?_ | refine opt_some (by dsimp only; exact getC_lent rfl rfl (by omega)) ?_ | refine opt_some rfl ?_ | refine ⟨_, (by simp only [nf, nl, nm, en, ints, setC_setC, Nat.reduceAdd, Nat.reduceMul]; exact rfl), ?_⟩ | refine ⟨_, pickT rfl, ?_⟩ | refine ⟨_, rfl, ?_⟩ | refine iteP_true rfl ?_ | refine iteP_false rfl ?_ | refine iteP_true ‹_› ?_ | refine iteP_false ‹_› ?_ | refine andK ?_ | refine andA ?_ | refine andT ?_); conv => whnf) | (refine iteP_intro (fun hb => ?_) (fun hb => ?_) <;> (conv => whnf)))
  rfl
/-- The letters of which each one is independent, and itself. -/
def cplN (ms : List Nat) : List Nat := (List.range ms.length).map fun i => andn (2 ^ ms.length - 1) (ms.getD i 0) ||| 2 ^ i
theorem cplN_len (ms : List Nat) : (cplN ms).length = ms.length := by simp [cplN]
theorem cplN_bit {ms : List Nat} (hl : ms.length ≤ 62) {i : Nat} (hi : i < ms.length) (j : Nat) : ((cplN ms).getD i 0).testBit j = (decide (j < ms.length) && !dep ms i j || decide (i = j)) := by
  unfold cplN
  rw [List.getD_eq_getElem?_getD, List.getElem?_map, List.getElem?_range hi]
  have h1 : 2 ^ ms.length - 1 < 2 ^ 63 := by
    have := Nat.pow_le_pow_right (show 0 < 2 by decide) (show ms.length ≤ 63 by omega)
    have := Nat.two_pow_pos ms.length
    omega
  show (andn (2 ^ ms.length - 1) (ms.getD i 0) ||| 2 ^ i).testBit j = _
  rw [Nat.testBit_or, andn_bit _ _ h1, Nat.testBit_two_pow_sub_one, Nat.testBit_two_pow]
  rfl
theorem cplN_lt {ms : List Nat} (hl : ms.length ≤ 62) : ∀ m ∈ cplN ms, m < 2 ^ (cplN ms).length := fun m hm => by
  rw [cplN_len]
  obtain ⟨i, hi, rfl⟩ := List.getElem_of_mem hm
  rw [cplN_len] at hi
  refine Nat.lt_pow_two_of_testBit _ fun j hj => ?_
  have := cplN_bit hl hi j
  rw [List.getD_eq_getElem?_getD, List.getElem?_eq_getElem (by rw [cplN_len]; exact hi), Option.getD_some] at this
  rw [this, decide_eq_false (by omega), decide_eq_false (by omega)]
  rfl
set_option maxHeartbeats 16000000 in
set_option maxRecDepth 100000 in
theorem compl_ret (ms : List Nat) (hl : ms.length ≤ 8) (hm : ∀ m ∈ ms, m < 2 ^ ms.length) : Ret Tryd.prog G0 104 [⟨.ro, .agg [i64 ms.length, ints (natI ms)]⟩] ⟨.agg [i64 ms.length, ints (natI (cplN ms))], []⟩ := by
  have hml := natI_length ms
  have hcl := cplN_len ms
  have hfull : 2 ^ ms.length - 1 < 2 ^ 63 := by
    have := Nat.pow_le_pow_right (show 0 < 2 by decide) (show ms.length ≤ 8 by omega)
    omega
  (refine ret_of_den (E := en 31 [] (fun _ => [(1, 0), (2, 0), (3, 0), (11, 0), (12, 0), (10, 1)]) (fun _ => [(3, 1)])) tt_ok mixed Tryd.func104 rfl rfl rfl rfl ?_; refine ⟨by simp, ?_⟩)
  repeat' (first | ((first | refine opt_some (getC_rows rfl rfl (by omega)) ?_ | refine opt_some (by dsimp only; exact getC_lent rfl rfl (by omega)) ?_ | refine opt_some rfl ?_ | refine ⟨_, (by simp only [nf, nl, nm, en, ints, setC_setC, Nat.reduceAdd, Nat.reduceMul]; exact rfl), ?_⟩ | refine ⟨_, pickT rfl, ?_⟩ | refine ⟨_, rfl, ?_⟩ | refine iteP_true rfl ?_ | refine iteP_false rfl ?_ | refine iteP_true ‹_› ?_ | refine iteP_false ‹_› ?_ | refine andK ?_ | refine andA ?_ | refine andT ?_); conv => whnf) | (refine iteP_intro (fun hb => ?_) (fun hb => ?_) <;> (conv => whnf)))
  refine ⟨fun k vs => ∃ i : Nat, i ≤ ms.length ∧ vs = [.one (.ptr [i64 ms.length, .shd (ints (natI ms))]), .one (.ptr [i64 0, nilS]), .one (.ptr [i64 ms.length, ints (natI ((cplN ms).take i))]), .one (i64 ms.length), .one (i64 i), .one (.shd (ints (natI ms)))] ∧ k = ms.length - i, rfl, ⟨_, 0, by omega, by rw [← hml]; rfl, rfl⟩, ?_⟩
  rintro k vs ⟨i, hi, rfl, rfl⟩
  have htl : ((cplN ms).take i).length = i := by rw [List.length_take]; omega
  have htn := natI_length ((cplN ms).take i)
  repeat (first | ((first | refine opt_some (getC_rows rfl rfl (by omega)) ?_ | refine opt_some (by dsimp only; exact getC_lent rfl rfl (by omega)) ?_ | refine opt_some rfl ?_ | refine ⟨_, (by simp only [nf, nl, nm, en, ints, setC_setC, Nat.reduceAdd, Nat.reduceMul]; exact rfl), ?_⟩ | refine ⟨_, pickT rfl, ?_⟩ | refine ⟨_, rfl, ?_⟩ | refine iteP_true rfl ?_ | refine iteP_false rfl ?_ | refine iteP_true ‹_› ?_ | refine iteP_false ‹_› ?_ | refine andK ?_ | refine andA ?_ | refine andT ?_); conv => whnf))
  refine iteP_intro (fun hb => ?_) (fun hb => ?_) <;> (conv => whnf)
  · have hi' : i < ms.length := by have := leT hb; omega
    have hgi : (natI ms)[i]'(by omega) = ((ms.getD i 0 : Nat) : Int) := natI_getD hi'
    have hmi : ms.getD i 0 < 2 ^ 63 := by
      rw [List.getD_eq_getElem?_getD, List.getElem?_eq_getElem hi', Option.getD_some]
      exact Nat.lt_of_lt_of_le (hm _ (List.getElem_mem hi')) (Nat.pow_le_pow_right (by decide) (by omega))
    have hA := allLetters_ret ms.length (natI ms) (by omega)
    have hO := one_retN i (by omega)
    have e1 := andn_i64 (a := 2 ^ ms.length - 1) (b := ms.getD i 0) hfull hmi
    have e2 := or_i64 (a := andn (2 ^ ms.length - 1) (ms.getD i 0)) (b := 2 ^ i) (andn_lt _ _) (Nat.pow_lt_pow_right (by decide) (by omega))
    have hsn : ints (natI ((cplN ms).take (i + 1))) = .sl false 1 (i + 1) ((natI ((cplN ms).take i)).map i64 ++ [i64 ((andn (2 ^ ms.length - 1) (ms.getD i 0) ||| 2 ^ i : Nat) : Int)]) := by
      have hts : (cplN ms).take (i + 1) = (cplN ms).take i ++ [andn (2 ^ ms.length - 1) (ms.getD i 0) ||| 2 ^ i] := by
        rw [List.take_add_one]
        congr 1
        unfold cplN
        rw [List.getElem?_map, List.getElem?_range hi']
        rfl
      rw [hts, ints_natI_snoc, htn, htl]
    repeat (first | ((first | refine opt_some (getC_rows rfl rfl (by omega)) ?_ | refine opt_some (by dsimp only; exact getC_lent rfl rfl (by omega)) ?_ | refine opt_some rfl ?_ | refine ⟨_, (by simp only [nf, nl, nm, en, ints, setC_setC, Nat.reduceAdd, Nat.reduceMul, hgi]; exact rfl), ?_⟩ | refine ⟨_, pickT rfl, ?_⟩ | refine ⟨_, rfl, ?_⟩ | refine iteP_true rfl ?_ | refine iteP_false rfl ?_ | refine iteP_true ‹_› ?_ | refine iteP_false ‹_› ?_ | refine andK ?_ | refine andA ?_ | refine andT ?_); conv => whnf))
    (refine ⟨_, hA, ?_⟩; conv => whnf)
    repeat (first | ((first | refine opt_some (getC_rows rfl rfl (by omega)) ?_ | refine opt_some (by dsimp only; exact getC_lent rfl rfl (by omega)) ?_ | refine opt_some rfl ?_ | refine ⟨_, (by simp only [nf, nl, nm, en, ints, setC_setC, Nat.reduceAdd, Nat.reduceMul, hgi]; exact rfl), ?_⟩ | refine ⟨_, pickT rfl, ?_⟩ | refine ⟨_, rfl, ?_⟩ | refine iteP_true rfl ?_ | refine iteP_false rfl ?_ | refine iteP_true ‹_› ?_ | refine iteP_false ‹_› ?_ | refine andK ?_ | refine andA ?_ | refine andT ?_); conv => whnf))
    (refine ⟨_, hO, ?_⟩; conv => whnf)
    repeat (first | ((first | refine opt_some (getC_rows rfl rfl (by omega)) ?_ | refine opt_some (by dsimp only; exact getC_lent rfl rfl (by omega)) ?_ | refine opt_some rfl ?_ | refine ⟨_, (by simp only [nf, nl, nm, en, ints, setC_setC, Nat.reduceAdd, Nat.reduceMul, hgi, e1, e2]; exact rfl), ?_⟩ | refine ⟨_, pickT rfl, ?_⟩ | refine ⟨_, rfl, ?_⟩ | refine iteP_true rfl ?_ | refine iteP_false rfl ?_ | refine iteP_true ‹_› ?_ | refine iteP_false ‹_› ?_ | refine andK ?_ | refine andA ?_ | refine andT ?_); conv => whnf))
    refine ⟨_, ?_, i + 1, hi', ?_, rfl⟩
    · omega
    · rw [wrap_succ (by omega), hsn, htn, htl]
      rfl
  · have hie : i = ms.length := by have := leF hb; omega
    rw [List.take_of_length_le (by omega)]
    repeat' (first | ((first | refine opt_some (getC_rows rfl rfl (by omega)) ?_ | refine opt_some (by dsimp only; exact getC_lent rfl rfl (by omega)) ?_ | refine opt_some rfl ?_ | refine ⟨_, (by simp only [nf, nl, nm, en, ints, setC_setC, Nat.reduceAdd, Nat.reduceMul]; exact rfl), ?_⟩ | refine ⟨_, pickT rfl, ?_⟩ | refine ⟨_, rfl, ?_⟩ | refine iteP_true rfl ?_ | refine iteP_false rfl ?_ | refine iteP_true ‹_› ?_ | refine iteP_false ‹_› ?_ | refine andK ?_ | refine andA ?_ | refine andT ?_); conv => whnf) | (refine iteP_intro (fun hb => ?_) (fun hb => ?_) <;> (conv => whnf)))
    rfl
def mutN (r : List Nat) : List Nat := (List.range r.length).map fun i => (cvN r r.length).getD i 0 &&& andn (r.getD i 0) (2 ^ i)
theorem mutN_len (r : List Nat) : (mutN r).length = r.length := by simp [mutN]
theorem mutN_get {r : List Nat} {i : Nat} (hi : i < r.length) : (mutN r).getD i 0 = (cvN r r.length).getD i 0 &&& andn (r.getD i 0) (2 ^ i) := by
  unfold mutN
  rw [List.getD_eq_getElem?_getD, List.getElem?_map, List.getElem?_range hi]
  rfl
theorem cvN_get {r : List Nat} {i : Nat} (hi : i < r.length) : (cvN r r.length).getD i 0 = maskN (fun j => (r.getD j 0).testBit i) r.length := by
  unfold cvN
  rw [List.getD_eq_getElem?_getD, List.getElem?_map, List.getElem?_range hi]
  rfl
theorem mutN_bit {r : List Nat} (hl : r.length ≤ 62) (hm : ∀ m ∈ r, m < 2 ^ r.length) {i : Nat} (hi : i < r.length) (j : Nat) : ((mutN r).getD i 0).testBit j = (decide (j < r.length) && (r.getD j 0).testBit i && (r.getD i 0).testBit j && !decide (i = j)) := by
  have h1 : r.getD i 0 < 2 ^ 63 := by
    rw [List.getD_eq_getElem?_getD, List.getElem?_eq_getElem hi, Option.getD_some]
    exact Nat.lt_of_lt_of_le (hm _ (List.getElem_mem hi)) (Nat.pow_le_pow_right (by decide) (by omega))
  rw [mutN_get hi, cvN_get hi, Nat.testBit_and, maskN_bit, andn_bit _ _ h1, Nat.testBit_two_pow]
  cases decide (j < r.length) <;> cases (r.getD j 0).testBit i <;> cases (r.getD i 0).testBit j <;> cases decide (i = j) <;> rfl
theorem mutN_lt {r : List Nat} (hl : r.length ≤ 62) (hm : ∀ m ∈ r, m < 2 ^ r.length) : ∀ m ∈ mutN r, m < 2 ^ r.length := fun m h => by
  obtain ⟨i, hi, rfl⟩ := List.getElem_of_mem h
  rw [mutN_len] at hi
  refine Nat.lt_pow_two_of_testBit _ fun j hj => ?_
  have := mutN_bit hl hm hi j
  rw [List.getD_eq_getElem?_getD, List.getElem?_eq_getElem (by rw [mutN_len]; exact hi), Option.getD_some] at this
  rw [this, decide_eq_false (by omega)]
  rfl
/-- The first i are done. -/
def mutA (r : List Nat) (i : Nat) : List Nat := (mutN r).take i ++ (cvN r r.length).drop i
theorem mutA_len {r : List Nat} {i : Nat} (h : i ≤ r.length) : (mutA r i).length = r.length := by
  have h1 := mutN_len r
  have h2 := cvN_length r r.length
  unfold mutA
  rw [List.length_append, List.length_take, List.length_drop]
  omega
theorem mutA_at {r : List Nat} {i : Nat} (h : i < r.length) : (mutA r i).getD i 0 = (cvN r r.length).getD i 0 := by
  have h1 := mutN_len r
  unfold mutA
  rw [List.getD_eq_getElem?_getD, List.getD_eq_getElem?_getD, List.getElem?_append_right (by rw [List.length_take]; omega), List.length_take, Nat.min_eq_left (by omega), Nat.sub_self, List.getElem?_drop]
  rfl
theorem mutA_set {r : List Nat} {i : Nat} (h : i < r.length) : (mutA r i).set i ((mutN r).getD i 0) = mutA r (i + 1) := by
  have h1 := mutN_len r
  have h2 := cvN_length r r.length
  refine List.ext_getElem? fun j => ?_
  have hl := mutA_len (r := r) (i := i) (by omega)
  have hg : ∀ k, k ≤ r.length → (mutA r k)[j]? = if j < k then (mutN r)[j]? else (cvN r r.length)[j]? := fun k hk => by
    unfold mutA
    by_cases hj : j < k
    · rw [if_pos hj, List.getElem?_append_left (by rw [List.length_take]; omega), List.getElem?_take, if_pos hj]
    · rw [if_neg hj, List.getElem?_append_right (by rw [List.length_take]; omega), List.length_take, Nat.min_eq_left (by omega), List.getElem?_drop, show k + (j - k) = j by omega]
  rw [List.getElem?_set, hg (i + 1) (by omega)]
  by_cases e : i = j
  · subst e
    rw [if_pos rfl, if_pos (by omega), if_pos (by omega), List.getD_eq_getElem?_getD, List.getElem?_eq_getElem (by omega)]
    rfl
  · rw [if_neg e, hg i (by omega)]
    by_cases hj : j < i
    · rw [if_pos hj, if_pos (by omega)]
    · rw [if_neg hj, if_neg (show ¬ j < i + 1 by omega)]
set_option maxHeartbeats 16000000 in
set_option maxRecDepth 100000 in
theorem mutual_ret (r : List Nat) (hl : r.length ≤ 24) (hm : ∀ m ∈ r, m < 2 ^ r.length) : Ret Tryd.prog G0 133 [⟨.ro, .one (ints (natI r))⟩] ⟨.one (ints (natI (mutN r))), []⟩ := by
  have hml := natI_length r
  have hC := converse_ret r hl hm
  have hcl := cvN_length r r.length
  have hcn := natI_length (cvN r r.length)
  (refine ret_of_den (E := en 27 [] (fun _ => [(3, 0), (8, 0), (9, 0), (0, 1)]) (fun _ => [])) tt_ok mixed Tryd.func133 rfl rfl rfl rfl ?_; refine ⟨by simp, ?_⟩)
  repeat' (first | ((first | refine opt_some (getC_rows rfl rfl (by omega)) ?_ | refine opt_some (by dsimp only; exact getC_lent rfl rfl (by omega)) ?_ | refine opt_some rfl ?_ | refine ⟨_, (by simp only [nf, nl, nm, en, ints, setC_setC, Nat.reduceAdd, Nat.reduceMul]; exact rfl), ?_⟩ | refine ⟨_, pickT rfl, ?_⟩ | refine ⟨_, rfl, ?_⟩ | refine iteP_true rfl ?_ | refine iteP_false rfl ?_ | refine iteP_true ‹_› ?_ | refine iteP_false ‹_› ?_ | refine andK ?_ | refine andA ?_ | refine andT ?_); conv => whnf) | (refine iteP_intro (fun hb => ?_) (fun hb => ?_) <;> (conv => whnf)))
  (refine ⟨_, hC, ?_⟩; conv => whnf)
  repeat' (first | ((first | refine opt_some (getC_rows rfl rfl (by omega)) ?_ | refine opt_some (by dsimp only; exact getC_lent rfl rfl (by omega)) ?_ | refine opt_some rfl ?_ | refine ⟨_, (by simp only [nf, nl, nm, en, ints, setC_setC, Nat.reduceAdd, Nat.reduceMul]; exact rfl), ?_⟩ | refine ⟨_, pickT rfl, ?_⟩ | refine ⟨_, rfl, ?_⟩ | refine iteP_true rfl ?_ | refine iteP_false rfl ?_ | refine iteP_true ‹_› ?_ | refine iteP_false ‹_› ?_ | refine andK ?_ | refine andA ?_ | refine andT ?_); conv => whnf) | (refine iteP_intro (fun hb => ?_) (fun hb => ?_) <;> (conv => whnf)))
  refine ⟨fun k vs => ∃ i : Nat, i ≤ r.length ∧ vs = [.one (ints (natI (mutA r i))), .one (i64 r.length), .one (i64 i), .one (.shd (ints (natI r)))] ∧ k = r.length - i, rfl, ⟨_, 0, by omega, ?_, rfl⟩, ?_⟩
  · have h0 : mutA r 0 = cvN r r.length := by simp [mutA]
    have hx : ((r.length : Nat) : Int) = (((natI (cvN r r.length)).length : Nat) : Int) := by rw [hcn, hcl]
    rw [h0, hx]
    rfl
  rintro k vs ⟨i, hi, rfl, rfl⟩
  have hm1 : ((natI (mutA r i)).map i64).length = (natI (mutA r i)).length := List.length_map _
  have hal := mutA_len hi
  have han := natI_length (mutA r i)
  repeat (first | ((first | refine opt_some (getC_rows rfl rfl (by omega)) ?_ | refine opt_some (by dsimp only; exact getC_lent rfl rfl (by omega)) ?_ | refine opt_some rfl ?_ | refine ⟨_, (by simp only [nf, nl, nm, en, ints, setC_setC, Nat.reduceAdd, Nat.reduceMul]; exact rfl), ?_⟩ | refine ⟨_, pickT rfl, ?_⟩ | refine ⟨_, rfl, ?_⟩ | refine iteP_true rfl ?_ | refine iteP_false rfl ?_ | refine iteP_true ‹_› ?_ | refine iteP_false ‹_› ?_ | refine andK ?_ | refine andA ?_ | refine andT ?_); conv => whnf))
  refine iteP_intro (fun hb => ?_) (fun hb => ?_) <;> (conv => whnf)
  · have hi' : i < r.length := by have := leT hb; omega
    have hgi : (natI r)[i]'(by omega) = ((r.getD i 0 : Nat) : Int) := natI_getD hi'
    have hga : (natI (mutA r i))[i]'(by omega) = (((cvN r r.length).getD i 0 : Nat) : Int) := by rw [natI_getD (by omega), mutA_at hi']
    have hmi : r.getD i 0 < 2 ^ 63 := by
      rw [List.getD_eq_getElem?_getD, List.getElem?_eq_getElem hi', Option.getD_some]
      exact Nat.lt_of_lt_of_le (hm _ (List.getElem_mem hi')) (Nat.pow_le_pow_right (by decide) (by omega))
    have hci : (cvN r r.length).getD i 0 < 2 ^ 63 := by
      rw [cvN_get hi']
      exact maskN_lt63 _ (by omega)
    have hO := one_retN i (by omega)
    have e1 := andn_i64 (a := r.getD i 0) (b := 2 ^ i) hmi (Nat.pow_lt_pow_right (by decide) (by omega))
    have e2 := and_i64 (a := (cvN r r.length).getD i 0) (b := andn (r.getD i 0) (2 ^ i)) hci
    have hsp : splice ((natI (mutA r i)).map i64) (((i : Nat) : Int).toNat * 1) [Cell.c (.int .i64 (((cvN r r.length).getD i 0 &&& andn (r.getD i 0) (2 ^ i) : Nat) : Int))] = (natI (mutA r (i + 1))).map i64 := by
      rw [← mutA_set hi', ← natI_set, mutN_get hi']
      exact splice_at rfl (by omega)
    repeat (first | ((first | refine opt_some (getC_rows rfl rfl (by omega)) ?_ | refine opt_some (by dsimp only; exact getC_lent rfl rfl (by omega)) ?_ | refine opt_some rfl ?_ | refine ⟨_, (by simp only [nf, nl, nm, en, ints, setC_setC, Nat.reduceAdd, Nat.reduceMul, hgi, hga]; exact rfl), ?_⟩ | refine ⟨_, pickT rfl, ?_⟩ | refine ⟨_, rfl, ?_⟩ | refine iteP_true rfl ?_ | refine iteP_false rfl ?_ | refine iteP_true ‹_› ?_ | refine iteP_false ‹_› ?_ | refine andK ?_ | refine andA ?_ | refine andT ?_); conv => whnf))
    (refine ⟨_, hO, ?_⟩; conv => whnf)
    repeat (first | ((first | refine opt_some (getC_rows rfl rfl (by omega)) ?_ | refine opt_some (by dsimp only; exact getC_lent rfl rfl (by omega)) ?_ | refine opt_some rfl ?_ | refine ⟨_, (by simp only [nf, nl, nm, en, ints, setC_setC, Nat.reduceAdd, Nat.reduceMul, hgi, hga, e1, e2]; exact rfl), ?_⟩ | refine ⟨_, pickT rfl, ?_⟩ | refine ⟨_, rfl, ?_⟩ | refine iteP_true rfl ?_ | refine iteP_false rfl ?_ | refine iteP_true ‹_› ?_ | refine iteP_false ‹_› ?_ | refine andK ?_ | refine andA ?_ | refine andT ?_); conv => whnf))
    refine ⟨⟨by dsimp only; omega, plain_i64 _⟩, ?_⟩
    conv => whnf
    repeat (first | ((first | refine opt_some (getC_rows rfl rfl (by omega)) ?_ | refine opt_some (by dsimp only; exact getC_lent rfl rfl (by omega)) ?_ | refine opt_some rfl ?_ | refine ⟨_, (by simp only [nf, nl, nm, en, ints, setC_setC, Nat.reduceAdd, Nat.reduceMul, hsp]; exact rfl), ?_⟩ | refine ⟨_, pickT rfl, ?_⟩ | refine ⟨_, rfl, ?_⟩ | refine iteP_true rfl ?_ | refine iteP_false rfl ?_ | refine iteP_true ‹_› ?_ | refine iteP_false ‹_› ?_ | refine andK ?_ | refine andA ?_ | refine andT ?_); conv => whnf))
    refine ⟨_, ?_, i + 1, hi', ?_, rfl⟩
    · omega
    · have hal2 := mutA_len (r := r) (i := i + 1) hi'
      rw [wrap_succ (by omega), han, hal, ← hal2, ← natI_length]
      rfl
  · have hie : i = r.length := by have := leF hb; omega
    have he : mutA r i = mutN r := by
      unfold mutA
      have := mutN_len r
      rw [List.take_of_length_le (by omega), List.drop_eq_nil_of_le (by omega), List.append_nil]
    rw [he]
    repeat' (first | ((first | refine opt_some (getC_rows rfl rfl (by omega)) ?_ | refine opt_some (by dsimp only; exact getC_lent rfl rfl (by omega)) ?_ | refine opt_some rfl ?_ | refine ⟨_, (by simp only [nf, nl, nm, en, ints, setC_setC, Nat.reduceAdd, Nat.reduceMul]; exact rfl), ?_⟩ | refine ⟨_, pickT rfl, ?_⟩ | refine ⟨_, rfl, ?_⟩ | refine iteP_true rfl ?_ | refine iteP_false rfl ?_ | refine iteP_true ‹_› ?_ | refine iteP_false ‹_› ?_ | refine andK ?_ | refine andA ?_ | refine andT ?_); conv => whnf) | (refine iteP_intro (fun hb => ?_) (fun hb => ?_) <;> (conv => whnf)))
    rfl
theorem or_two {c i : Nat} (h : c.testBit i = false) : c ||| 2 ^ i = c + 2 ^ i := Nat.eq_of_testBit_eq fun j => by
  rw [add_bit h, Nat.testBit_or, Nat.testBit_two_pow]
  congr 1
  rw [decide_eq_decide]
  exact ⟨Eq.symm, Eq.symm⟩
theorem mems_and (a b : Nat) : mems (a &&& b) = (mems a).filter fun j => b.testBit j := by
  unfold mems
  rw [List.filter_filter]
  congr 1
  funext j
  rw [Nat.testBit_and, Bool.and_comm]
theorem mems_full {n : Nat} (hn : n ≤ 64) : mems (2 ^ n - 1) = List.range n := by
  have h : maskN (fun _ => true) n = 2 ^ n - 1 := Nat.eq_of_testBit_eq fun i => by
    rw [maskN_bit, Nat.testBit_two_pow_sub_one, Bool.and_true]
  rw [← h, mems_mask _ hn]
  exact List.filter_eq_self.2 fun _ _ => rfl
theorem mems_nodup (m : Nat) : (mems m).Nodup := List.nodup_range.filter _
set_option maxHeartbeats 16000000 in
set_option maxRecDepth 100000 in
theorem addF_ret (sets : List Int) (m : Int) (hs : sets.length < 4096) : Ret Tryd.prog G0 147 [⟨.mu, .one (.ptr [ints sets, .c (.bool false)])⟩, ⟨.ro, .one (i64 m)⟩] ⟨.one (.c (.bool true)), [.one (.ptr [ints (sets ++ [m]), .c (.bool false)])]⟩ := by
  have h1 : ((sets.length : Int) == 4096) = false := by
    rw [beq_eq_false_iff_ne]
    omega
  (refine ret_of_den (E := en 34 [] (fun _ => []) (fun _ => [])) tt_ok mixed Tryd.func147 rfl rfl rfl rfl ?_; refine ⟨by simp, ?_⟩)
  repeat' (first | ((first | refine opt_some (getC_rows rfl rfl (by omega)) ?_ | refine opt_some (by dsimp only; exact getC_lent rfl rfl (by omega)) ?_ | refine opt_some rfl ?_ | refine ⟨_, (by simp only [nf, nl, nm, en, ints, setC_setC, Nat.reduceAdd, Nat.reduceMul, h1]; exact rfl), ?_⟩ | refine ⟨_, pickT rfl, ?_⟩ | refine ⟨_, rfl, ?_⟩ | refine iteP_true rfl ?_ | refine iteP_false rfl ?_ | refine iteP_true ‹_› ?_ | refine iteP_false ‹_› ?_ | refine andK ?_ | refine andA ?_ | refine andT ?_); conv => whnf) | (refine iteP_intro (fun hb => ?_) (fun hb => ?_) <;> (conv => whnf)))
  rw [ints_snoc]
  rfl
set_option maxHeartbeats 16000000 in
set_option maxRecDepth 100000 in
theorem growC_ret (N : List Nat) (near : Nat → Nat → Bool) (hN : N.length ≤ 24) (hn : ∀ i < N.length, N.getD i 0 < 2 ^ N.length ∧ ∀ j < N.length, (N.getD i 0).testBit j = near i j) : ∀ (f c o : Nat) (sets : List Int), (mems o).length ≤ f → o < 2 ^ N.length → c < 2 ^ N.length → (∀ i ∈ mems o, c.testBit i = false) → sets.length + 2 ^ (mems o).length ≤ 4096 → Ret Tryd.prog G0 132 [⟨.ro, .one (ints (natI N))⟩, ⟨.ro, .one (i64 c)⟩, ⟨.ro, .one (i64 o)⟩, ⟨.mu, .one (.ptr [ints sets, .c (.bool false)])⟩] ⟨.one (.c (.bool true)), [.one (.ptr [ints (sets ++ natI (c :: grw near f c (mems o))), .c (.bool false)])]⟩ := by
  intro f
  induction f using Nat.strongRecOn with
  | _ f ih =>
  intro c o sets hf ho hc hco hs
  have hnl := natI_length N
  have hpow : 2 ^ N.length ≤ 2 ^ 24 := Nat.pow_le_pow_right (by decide) hN
  have h1p := Nat.two_pow_pos (mems o).length
  have hAd := addF_ret sets c (by omega)
  have hR0 : ∃ R, sets ++ natI (c :: grw near f c (mems o)) = R := ⟨_, rfl⟩
  obtain ⟨R, hR⟩ := hR0
  rw [hR]
  (refine ret_of_den (E := en 39 [] (fun _ => [(1, 0), (2, 0), (3, 0), (0, 1), (39, 5)]) (fun _ => [])) tt_ok mixed Tryd.func132 rfl rfl rfl rfl ?_; refine ⟨by simp, ?_⟩)
  repeat' (first | ((first | refine opt_some (getC_rows rfl rfl (by omega)) ?_ | refine opt_some (by dsimp only; exact getC_lent rfl rfl (by omega)) ?_ | refine opt_some rfl ?_ | refine ⟨_, (by simp only [nf, nl, nm, en, ints, setC_setC, Nat.reduceAdd, Nat.reduceMul]; exact rfl), ?_⟩ | refine ⟨_, pickT rfl, ?_⟩ | refine ⟨_, rfl, ?_⟩ | refine iteP_true rfl ?_ | refine iteP_false rfl ?_ | refine iteP_true ‹_› ?_ | refine iteP_false ‹_› ?_ | refine andK ?_ | refine andA ?_ | refine andT ?_); conv => whnf) | (refine iteP_intro (fun hb => ?_) (fun hb => ?_) <;> (conv => whnf)))
  (refine ⟨_, hAd, ?_⟩; conv => whnf)
  repeat' (first | ((first | refine opt_some (getC_rows rfl rfl (by omega)) ?_ | refine opt_some (by dsimp only; exact getC_lent rfl rfl (by omega)) ?_ | refine opt_some rfl ?_ | refine ⟨_, (by simp only [nf, nl, nm, en, ints, setC_setC, Nat.reduceAdd, Nat.reduceMul]; exact rfl), ?_⟩ | refine ⟨_, pickT rfl, ?_⟩ | refine ⟨_, rfl, ?_⟩ | refine iteP_true rfl ?_ | refine iteP_false rfl ?_ | refine iteP_true ‹_› ?_ | refine iteP_false ‹_› ?_ | refine andK ?_ | refine andA ?_ | refine andT ?_); conv => whnf) | (refine iteP_intro (fun hb => ?_) (fun hb => ?_) <;> (conv => whnf)))
  refine ⟨fun k vs => ∃ (q g : Nat) (S : List Int), g ≤ f ∧ q < 2 ^ N.length ∧ (mems q).length ≤ g ∧ (∀ i ∈ mems q, c.testBit i = false) ∧ S.length + 2 ^ (mems q).length ≤ 4097 ∧ S ++ natI (grw near g c (mems q)) = R ∧ vs = [.one (i64 c), .one (i64 q), .one (.ptr [ints S, .c (.bool false)]), .one (.shd (ints (natI N))), .dead] ∧ k = q, rfl, ⟨_, o, f, sets ++ [(c : Int)], Nat.le_refl _, ho, hf, hco, by rw [List.length_append, List.length_singleton]; omega, by rw [← hR, List.append_assoc]; rfl, rfl, rfl⟩, ?_⟩
  rintro k vs ⟨q, g, S, hg, hq, hql, hqc, hSl, hSR, rfl, rfl⟩
  repeat (first | ((first | refine opt_some (getC_rows rfl rfl (by omega)) ?_ | refine opt_some (by dsimp only; exact getC_lent rfl rfl (by omega)) ?_ | refine opt_some rfl ?_ | refine ⟨_, (by simp only [nf, nl, nm, en, ints, setC_setC, Nat.reduceAdd, Nat.reduceMul]; exact rfl), ?_⟩ | refine ⟨_, pickT rfl, ?_⟩ | refine ⟨_, rfl, ?_⟩ | refine iteP_true rfl ?_ | refine iteP_false rfl ?_ | refine iteP_true ‹_› ?_ | refine iteP_false ‹_› ?_ | refine andK ?_ | refine andA ?_ | refine andT ?_); conv => whnf))
  refine iteP_intro (fun hb => ?_) (fun hb => ?_) <;> (conv => whnf)
  · have hq0 : k ≠ 0 := by have := neT hb; omega
    have hst := mems_step hq0 (show k < 2 ^ 64 by omega)
    have hi0 : ∃ i, Lib.ctz 64 k = i := ⟨_, rfl⟩
    obtain ⟨i, hi⟩ := hi0
    have hL := least_ret k (by omega)
    rw [hi] at hst hL
    have him : i ∈ mems k := by rw [hst]; simp
    have hil := (mems_lt hq him).1
    have hO := one_retN i (by omega)
    have hq1 : k &&& (k - 1) ≤ k - 1 := Nat.and_le_right
    have hr0 : ∃ r, k &&& (k - 1) = r := ⟨_, rfl⟩
    obtain ⟨r, hr⟩ := hr0
    have e1 : IntKind.i64.wrap ((k : Int) - 1) = ((k - 1 : Nat) : Int) := by rw [wrap_i64 (by omega) (by omega)]; omega
    have e2 := and_i64 (a := k) (b := k - 1) (by omega)
    rw [hr] at hst e2 hq1
    obtain ⟨hN1, hN2⟩ := hn i hil
    have e3 := and_i64 (a := r) (b := N.getD i 0) (by omega)
    have hci := hqc i him
    have hor := or_two hci
    have e4 := or_i64 (a := c) (b := 2 ^ i) (by omega) (Nat.pow_lt_pow_right (by decide) (by omega))
    rw [hor] at e4
    have hc2 : c + 2 ^ i < 2 ^ N.length := by
      rw [← hor]
      exact Nat.or_lt_two_pow hc (Nat.pow_lt_pow_right (by decide) hil)
    have hgN : (natI N)[i]'(by omega) = ((N.getD i 0 : Nat) : Int) := natI_getD hil
    have hrr : r < 2 ^ N.length := by omega
    have hnd := mems_nodup k
    rw [hst] at hnd hql hqc hSl hSR
    obtain ⟨hir, -⟩ := List.nodup_cons.1 hnd
    have hch : mems (r &&& N.getD i 0) = (mems r).filter (near i) := by
      rw [mems_and]
      refine List.filter_congr fun j hj => hN2 j (mems_lt hrr hj).1
    rw [List.length_cons] at hql hSl
    rw [Nat.pow_succ] at hSl
    obtain ⟨g', rfl⟩ : ∃ g', g = g' + 1 := ⟨g - 1, by omega⟩
    have hfl := List.length_filter_le (near i) (mems r)
    have hp1 : 2 ^ ((mems r).filter (near i)).length ≤ 2 ^ (mems r).length := Nat.pow_le_pow_right (by decide) hfl
    have hp0 := Nat.two_pow_pos (mems r).length
    have hI := ih g' (by omega) (c + 2 ^ i) (r &&& N.getD i 0) S (by rw [hch]; omega) (Nat.lt_of_le_of_lt Nat.and_le_left hrr) hc2 (fun j hj => by
      rw [hch] at hj
      have hjr := (List.mem_filter.1 hj).1
      rw [add_bit hci, hqc j (List.mem_cons_of_mem _ hjr), Bool.false_or]
      exact decide_eq_false fun e => hir (e ▸ hjr)) (by rw [hch]; omega)
    rw [hch] at hI
    have hgl := grw_len near g' (c + 2 ^ i) ((mems r).filter (near i))
    rw [grw] at hSR
    repeat (first | ((first | refine opt_some (getC_rows rfl rfl (by omega)) ?_ | refine opt_some (by dsimp only; exact getC_lent rfl rfl (by omega)) ?_ | refine opt_some rfl ?_ | refine ⟨_, (by simp only [nf, nl, nm, en, ints, setC_setC, Nat.reduceAdd, Nat.reduceMul]; exact rfl), ?_⟩ | refine ⟨_, pickT rfl, ?_⟩ | refine ⟨_, rfl, ?_⟩ | refine iteP_true rfl ?_ | refine iteP_false rfl ?_ | refine iteP_true ‹_› ?_ | refine iteP_false ‹_› ?_ | refine andK ?_ | refine andA ?_ | refine andT ?_); conv => whnf))
    (refine ⟨_, hL, ?_⟩; conv => whnf)
    repeat (first | ((first | refine opt_some (getC_rows rfl rfl (by omega)) ?_ | refine opt_some (by dsimp only; exact getC_lent rfl rfl (by omega)) ?_ | refine opt_some rfl ?_ | refine ⟨_, (by simp only [nf, nl, nm, en, ints, setC_setC, Nat.reduceAdd, Nat.reduceMul]; exact rfl), ?_⟩ | refine ⟨_, pickT rfl, ?_⟩ | refine ⟨_, rfl, ?_⟩ | refine iteP_true rfl ?_ | refine iteP_false rfl ?_ | refine iteP_true ‹_› ?_ | refine iteP_false ‹_› ?_ | refine andK ?_ | refine andA ?_ | refine andT ?_); conv => whnf))
    (refine ⟨_, hO, ?_⟩; conv => whnf)
    repeat (first | ((first | refine opt_some (getC_rows rfl rfl (by omega)) ?_ | refine opt_some (by dsimp only; exact getC_lent rfl rfl (by omega)) ?_ | refine opt_some rfl ?_ | refine ⟨_, (by simp only [nf, nl, nm, en, ints, setC_setC, Nat.reduceAdd, Nat.reduceMul, e1, e2, e3, e4, hgN]; exact rfl), ?_⟩ | refine ⟨_, pickT rfl, ?_⟩ | refine ⟨_, rfl, ?_⟩ | refine iteP_true rfl ?_ | refine iteP_false rfl ?_ | refine iteP_true ‹_› ?_ | refine iteP_false ‹_› ?_ | refine andK ?_ | refine andA ?_ | refine andT ?_); conv => whnf))
    (refine ⟨_, hI, ?_⟩; conv => whnf)
    repeat (first | ((first | refine opt_some (getC_rows rfl rfl (by omega)) ?_ | refine opt_some (by dsimp only; exact getC_lent rfl rfl (by omega)) ?_ | refine opt_some rfl ?_ | refine ⟨_, (by simp only [nf, nl, nm, en, ints, setC_setC, Nat.reduceAdd, Nat.reduceMul, e1, e2]; exact rfl), ?_⟩ | refine ⟨_, pickT rfl, ?_⟩ | refine ⟨_, rfl, ?_⟩ | refine iteP_true rfl ?_ | refine iteP_false rfl ?_ | refine iteP_true ‹_› ?_ | refine iteP_false ‹_› ?_ | refine andK ?_ | refine andA ?_ | refine andT ?_); conv => whnf))
    refine ⟨_, ?_, r, g', S ++ natI ((c + 2 ^ i) :: grw near g' (c + 2 ^ i) ((mems r).filter (near i))), by omega, hrr, by omega, fun j hj => hqc j (List.mem_cons_of_mem _ hj), ?_, ?_, rfl, rfl⟩
    · omega
    · rw [List.length_append, natI_length, List.length_cons]
      omega
    · rw [← hSR]
      simp [natI]
  · have hq0 : k = 0 := by have := neF hb; omega
    subst hq0
    rw [show mems 0 = [] from by simp [mems]] at hSR
    have : grw near g c [] = [] := by cases g <;> rfl
    rw [this] at hSR
    simp [natI] at hSR
    subst hSR
    repeat' (first | ((first | refine opt_some (getC_rows rfl rfl (by omega)) ?_ | refine opt_some (by dsimp only; exact getC_lent rfl rfl (by omega)) ?_ | refine opt_some rfl ?_ | refine ⟨_, (by simp only [nf, nl, nm, en, ints, setC_setC, Nat.reduceAdd, Nat.reduceMul]; exact rfl), ?_⟩ | refine ⟨_, pickT rfl, ?_⟩ | refine ⟨_, rfl, ?_⟩ | refine iteP_true rfl ?_ | refine iteP_false rfl ?_ | refine iteP_true ‹_› ?_ | refine iteP_false ‹_› ?_ | refine andK ?_ | refine andA ?_ | refine andT ?_); conv => whnf) | (refine iteP_intro (fun hb => ?_) (fun hb => ?_) <;> (conv => whnf)))
    rfl
def lay148_ren : Go.Shelf.Ren := ⟨fun | 5 => 148 | 8 => 143 | 7 => 163 | 19 => 158 | 20 => 159 | 10 => 169 | 11 => 170 | 12 => 171 | 13 => 172 | 14 => 173 | 15 => 174 | 16 => 175 | 17 => 176 | 18 => 177 | 30 => 179 | 31 => 165 | 32 => 166 | 33 => 180 | 34 => 181 | 35 => 160 | 40 => 182 | n => n, fun | 23 => 22 | 25 => 2 | 3 => 3 | 32 => 129 | 22 => 22 | 0 => 0 | 44 => 160 | 46 => 102 | 4 => 4 | 36 => 153 | 35 => 152 | 41 => 157 | 5 => 5 | 9 => 9 | 53 => 164 | 57 => 168 | 63 => 175 | 64 => 176 | n => n, fun | n => n⟩
theorem lay148 : Go.Proofs.SlLaysM.n5 Tryd.prog lay148_ren := {
  mixed := by kernel_rfl,
  f5 := ⟨Tryd.f148.name, by decide, Tryd.func148.trans (congrArg some (by kernel_rfl))⟩,
  f7 := ⟨Tryd.f163.name, by decide, Tryd.func163.trans (congrArg some (by kernel_rfl))⟩,
  f8 := Tryd.func143.trans (congrArg some (by kernel_rfl)),
  f10 := ⟨Tryd.f169.name, by decide, Tryd.func169.trans (congrArg some (by kernel_rfl))⟩,
  f11 := ⟨Tryd.f170.name, by decide, Tryd.func170.trans (congrArg some (by kernel_rfl))⟩,
  f12 := ⟨Tryd.f171.name, by decide, Tryd.func171.trans (congrArg some (by kernel_rfl))⟩,
  f13 := ⟨Tryd.f172.name, by decide, Tryd.func172.trans (congrArg some (by kernel_rfl))⟩,
  f14 := ⟨Tryd.f173.name, by decide, Tryd.func173.trans (congrArg some (by kernel_rfl))⟩,
  f15 := ⟨Tryd.f174.name, by decide, Tryd.func174.trans (congrArg some (by kernel_rfl))⟩,
  f16 := ⟨Tryd.f175.name, by decide, Tryd.func175.trans (congrArg some (by kernel_rfl))⟩,
  f17 := ⟨Tryd.f176.name, by decide, Tryd.func176.trans (congrArg some (by kernel_rfl))⟩,
  f18 := ⟨Tryd.f177.name, by decide, Tryd.func177.trans (congrArg some (by kernel_rfl))⟩,
  f19 := Tryd.func158.trans (congrArg some (by kernel_rfl)),
  f20 := Tryd.func159.trans (congrArg some (by kernel_rfl)),
  f30 := ⟨Tryd.f179.name, by decide, Tryd.func179.trans (congrArg some (by kernel_rfl))⟩,
  f31 := Tryd.func165.trans (congrArg some (by kernel_rfl)),
  f32 := Tryd.func166.trans (congrArg some (by kernel_rfl)),
  f33 := ⟨Tryd.f180.name, by decide, Tryd.func180.trans (congrArg some (by kernel_rfl))⟩,
  f34 := ⟨Tryd.f181.name, by decide, Tryd.func181.trans (congrArg some (by kernel_rfl))⟩,
  f35 := ⟨Tryd.f160.name, by decide, Tryd.func160.trans (congrArg some (by kernel_rfl))⟩,
  f40 := ⟨Tryd.f182.name, by decide, Tryd.func182.trans (congrArg some (by kernel_rfl))⟩,
  t0 := Tryd.underlying0,
  a0 := Tryd.isAgg0,
  z0 := Tryd.sizeOf0,
  v0 := Tryd.zeroValue0,
  t3 := Tryd.underlying3,
  a3 := Tryd.isAgg3,
  z3 := Tryd.sizeOf3,
  v3 := Tryd.zeroValue3,
  t4 := Tryd.underlying4,
  a4 := Tryd.isAgg4,
  z4 := Tryd.sizeOf4,
  v4 := Tryd.zeroValue4,
  t5 := Tryd.underlying5,
  a5 := Tryd.isAgg5,
  z5 := Tryd.sizeOf5,
  v5 := Tryd.zeroValue5,
  t9 := Tryd.underlying9,
  a9 := Tryd.isAgg9,
  z9 := Tryd.sizeOf9,
  v9 := Tryd.zeroValue9,
  t22 := Tryd.underlying22,
  a22 := Tryd.isAgg22,
  z22 := Tryd.sizeOf22,
  v22 := Tryd.zeroValue22,
  t23 := Tryd.underlying22,
  a23 := Tryd.isAgg22,
  z23 := Tryd.sizeOf22,
  v23 := Tryd.zeroValue22,
  t25 := Tryd.underlying2,
  a25 := Tryd.isAgg2,
  z25 := Tryd.sizeOf2,
  v25 := Tryd.zeroValue2,
  t32 := Tryd.underlying129,
  a32 := Tryd.isAgg129,
  z32 := Tryd.sizeOf129,
  v32 := Tryd.zeroValue129,
  t35 := Tryd.underlying152,
  a35 := Tryd.isAgg152,
  z35 := Tryd.sizeOf152,
  v35 := Tryd.zeroValue152,
  t36 := Tryd.underlying153,
  a36 := Tryd.isAgg153,
  z36 := Tryd.sizeOf153,
  v36 := Tryd.zeroValue153,
  t41 := Tryd.underlying157,
  a41 := Tryd.isAgg157,
  z41 := Tryd.sizeOf157,
  v41 := Tryd.zeroValue157,
  t44 := Tryd.underlying160,
  a44 := Tryd.isAgg160,
  z44 := Tryd.sizeOf160,
  v44 := Tryd.zeroValue160,
  t46 := Tryd.underlying102,
  a46 := Tryd.isAgg102,
  z46 := Tryd.sizeOf102,
  v46 := Tryd.zeroValue102,
  t53 := Tryd.underlying164,
  a53 := Tryd.isAgg164,
  z53 := Tryd.sizeOf164,
  v53 := Tryd.zeroValue164,
  t57 := Tryd.underlying168,
  a57 := Tryd.isAgg168,
  z57 := Tryd.sizeOf168,
  v57 := Tryd.zeroValue168,
  t63 := Tryd.underlying175,
  a63 := Tryd.isAgg175,
  z63 := Tryd.sizeOf175,
  v63 := Tryd.zeroValue175,
  t64 := Tryd.underlying176,
  a64 := Tryd.isAgg176,
  z64 := Tryd.sizeOf176,
  v64 := Tryd.zeroValue176
}

set_option maxHeartbeats 16000000 in
set_option maxRecDepth 100000 in
theorem sortI_ret (xs : List Int) (hn : xs.length < 2 ^ 62) : Ret Tryd.prog G0 148 [⟨.mu, .one (ints xs)⟩] ⟨.tup [], [.one (.sl false 1 xs.length ((xs.mergeSort fun x y => decide (x ≤ y)).map i64))]⟩ :=
  sortIntsR lay148 (Go.Proofs.enters_of Tryd.func148 (by kernel_rfl) rfl) xs hn
set_option maxHeartbeats 16000000 in
set_option maxRecDepth 100000 in
theorem sortedF_ret (sets : List Int) (ys : List Nat) (hp : sets.Perm (natI ys)) (hs : ys.Pairwise (· < ·)) (hn : sets.length < 2 ^ 62) : Ret Tryd.prog G0 134 [⟨.mv, .one (.ptr [ints sets, .c (.bool false)])⟩] ⟨.tup [(false, [ints (natI ys)]), (false, [i64 0])], []⟩ := by
  have hS := sortI_ret sets hn
  have hl := hp.length_eq
  rw [sortI_eq hp hs, hl] at hS
  (refine ret_of_den (E := en 17 [] (fun _ => []) (fun _ => [])) tt_ok mixed Tryd.func134 rfl rfl rfl rfl ?_; refine ⟨by simp, ?_⟩)
  repeat' (first | ((first | refine opt_some (getC_rows rfl rfl (by omega)) ?_ | refine opt_some (by dsimp only; exact getC_lent rfl rfl (by omega)) ?_ | refine opt_some rfl ?_ | refine ⟨_, (by simp only [nf, nl, nm, en, ints, setC_setC, Nat.reduceAdd, Nat.reduceMul]; exact rfl), ?_⟩ | refine ⟨_, pickT rfl, ?_⟩ | refine ⟨_, rfl, ?_⟩ | refine iteP_true rfl ?_ | refine iteP_false rfl ?_ | refine iteP_true ‹_› ?_ | refine iteP_false ‹_› ?_ | refine andK ?_ | refine andA ?_ | refine andT ?_); conv => whnf) | (refine iteP_intro (fun hb => ?_) (fun hb => ?_) <;> (conv => whnf)))
  (refine ⟨_, hS, ?_⟩; conv => whnf)
  repeat' (first | ((first | refine opt_some (getC_rows rfl rfl (by omega)) ?_ | refine opt_some (by dsimp only; exact getC_lent rfl rfl (by omega)) ?_ | refine opt_some rfl ?_ | refine ⟨_, (by simp only [nf, nl, nm, en, ints, setC_setC, Nat.reduceAdd, Nat.reduceMul]; exact rfl), ?_⟩ | refine ⟨_, pickT rfl, ?_⟩ | refine ⟨_, rfl, ?_⟩ | refine iteP_true rfl ?_ | refine iteP_false rfl ?_ | refine iteP_true ‹_› ?_ | refine iteP_false ‹_› ?_ | refine andK ?_ | refine andA ?_ | refine andT ?_); conv => whnf) | (refine iteP_intro (fun hb => ?_) (fun hb => ?_) <;> (conv => whnf)))
  rfl
set_option maxHeartbeats 16000000 in
set_option maxRecDepth 100000 in
theorem cliques_ret (r : List Nat) (hl : r.length ≤ 8) (hm : ∀ m ∈ r, m < 2 ^ r.length) (D : Nat → Nat → Bool) (hD : ∀ i j, i < j → j < r.length → ((mutN r).getD i 0).testBit j = !D j i) : Ret Tryd.prog G0 103 [⟨.ro, .one (ints (natI r))⟩] ⟨.tup [(false, [ints (natI (stepL D r.length))]), (false, [i64 0])], []⟩ := by
  have hml := mutN_len r
  have hrl := natI_length r
  have hM := mutual_ret r (by omega) hm
  have hlt := mutN_lt (r := r) (by omega) hm
  have hp8 : 2 ^ r.length ≤ 2 ^ 8 := Nat.pow_le_pow_right (by decide) hl
  have hp0 := Nat.two_pow_pos r.length
  have hfu : mems (2 ^ r.length - 1) = List.range r.length := mems_full (by omega)
  have hG := growC_ret (mutN r) (fun i j => ((mutN r).getD i 0).testBit j) (by omega) (fun i hi => ⟨by
    rw [List.getD_eq_getElem?_getD, List.getElem?_eq_getElem hi, Option.getD_some, hml]
    exact hlt _ (List.getElem_mem hi), fun _ _ => rfl⟩) r.length 0 (2 ^ r.length - 1) [] (by rw [hfu, List.length_range]; exact Nat.le_refl _) (by rw [hml]; omega) (Nat.two_pow_pos _) (fun i _ => Nat.zero_testBit i) (by rw [hfu, List.length_range]; simp; omega)
  rw [hfu, List.nil_append] at hG
  have hpm := grw_perm (near := fun i j => ((mutN r).getD i 0).testBit j) (D := D) (n := r.length) hD
  have hgl := grw_len (fun i j => ((mutN r).getD i 0).testBit j) r.length 0 (List.range r.length)
  rw [List.length_range] at hgl
  have hS := sortedF_ret (natI (0 :: grw (fun i j => ((mutN r).getD i 0).testBit j) r.length 0 (List.range r.length))) (stepL D r.length) (natI_perm hpm) (stepL_sorted D r.length) (by rw [natI_length, List.length_cons]; omega)
  have hLe := length_ret (natI r)
  have hO := one_retN r.length (by omega)
  have e1 : IntKind.i64.wrap (((2 ^ r.length : Nat) : Int) - 1) = ((2 ^ r.length - 1 : Nat) : Int) := by rw [wrap_i64 (by omega) (by omega)]; omega
  rw [hrl] at hLe
  have hG2 := hG.args (.same _ (.same _ (.same _ (.ow (by simp) (.one (.ptr (.cons (.nil false 1) (.cons (.refl _) .nil)))) .nil))))
  generalize 0 :: grw (fun i j => ((mutN r).getD i 0).testBit j) r.length 0 (List.range r.length) = X at hG2 hS
  (refine ret_of_den (E := en 19 [] (fun _ => []) (fun _ => [])) tt_ok mixed Tryd.func103 rfl rfl rfl rfl ?_; refine ⟨by simp, ?_⟩)
  repeat' (first | ((first | refine opt_some (getC_rows rfl rfl (by omega)) ?_ | refine opt_some (by dsimp only; exact getC_lent rfl rfl (by omega)) ?_ | refine opt_some rfl ?_ | refine ⟨_, (by simp only [nf, nl, nm, en, ints, setC_setC, Nat.reduceAdd, Nat.reduceMul]; exact rfl), ?_⟩ | refine ⟨_, pickT rfl, ?_⟩ | refine ⟨_, rfl, ?_⟩ | refine iteP_true rfl ?_ | refine iteP_false rfl ?_ | refine iteP_true ‹_› ?_ | refine iteP_false ‹_› ?_ | refine andK ?_ | refine andA ?_ | refine andT ?_); conv => whnf) | (refine iteP_intro (fun hb => ?_) (fun hb => ?_) <;> (conv => whnf)))
  (refine ⟨_, hM, ?_⟩; conv => whnf)
  repeat' (first | ((first | refine opt_some (getC_rows rfl rfl (by omega)) ?_ | refine opt_some (by dsimp only; exact getC_lent rfl rfl (by omega)) ?_ | refine opt_some rfl ?_ | refine ⟨_, (by simp only [nf, nl, nm, en, ints, setC_setC, Nat.reduceAdd, Nat.reduceMul]; exact rfl), ?_⟩ | refine ⟨_, pickT rfl, ?_⟩ | refine ⟨_, rfl, ?_⟩ | refine iteP_true rfl ?_ | refine iteP_false rfl ?_ | refine iteP_true ‹_› ?_ | refine iteP_false ‹_› ?_ | refine andK ?_ | refine andA ?_ | refine andT ?_); conv => whnf) | (refine iteP_intro (fun hb => ?_) (fun hb => ?_) <;> (conv => whnf)))
  (refine ⟨_, hLe, ?_⟩; conv => whnf)
  repeat' (first | ((first | refine opt_some (getC_rows rfl rfl (by omega)) ?_ | refine opt_some (by dsimp only; exact getC_lent rfl rfl (by omega)) ?_ | refine opt_some rfl ?_ | refine ⟨_, (by simp only [nf, nl, nm, en, ints, setC_setC, Nat.reduceAdd, Nat.reduceMul]; exact rfl), ?_⟩ | refine ⟨_, pickT rfl, ?_⟩ | refine ⟨_, rfl, ?_⟩ | refine iteP_true rfl ?_ | refine iteP_false rfl ?_ | refine iteP_true ‹_› ?_ | refine iteP_false ‹_› ?_ | refine andK ?_ | refine andA ?_ | refine andT ?_); conv => whnf) | (refine iteP_intro (fun hb => ?_) (fun hb => ?_) <;> (conv => whnf)))
  (refine ⟨_, hO, ?_⟩; conv => whnf)
  repeat' (first | ((first | refine opt_some (getC_rows rfl rfl (by omega)) ?_ | refine opt_some (by dsimp only; exact getC_lent rfl rfl (by omega)) ?_ | refine opt_some rfl ?_ | refine ⟨_, (by simp only [nf, nl, nm, en, ints, setC_setC, Nat.reduceAdd, Nat.reduceMul, e1]; exact rfl), ?_⟩ | refine ⟨_, pickT rfl, ?_⟩ | refine ⟨_, rfl, ?_⟩ | refine iteP_true rfl ?_ | refine iteP_false rfl ?_ | refine iteP_true ‹_› ?_ | refine iteP_false ‹_› ?_ | refine andK ?_ | refine andA ?_ | refine andT ?_); conv => whnf) | (refine iteP_intro (fun hb => ?_) (fun hb => ?_) <;> (conv => whnf)))
  (refine ⟨_, hG2, ?_⟩; conv => whnf)
  repeat' (first | ((first | refine opt_some (getC_rows rfl rfl (by omega)) ?_ | refine opt_some (by dsimp only; exact getC_lent rfl rfl (by omega)) ?_ | refine opt_some rfl ?_ | refine ⟨_, (by simp only [nf, nl, nm, en, ints, setC_setC, Nat.reduceAdd, Nat.reduceMul]; exact rfl), ?_⟩ | refine ⟨_, pickT rfl, ?_⟩ | refine ⟨_, rfl, ?_⟩ | refine iteP_true rfl ?_ | refine iteP_false rfl ?_ | refine iteP_true ‹_› ?_ | refine iteP_false ‹_› ?_ | refine andK ?_ | refine andA ?_ | refine andT ?_); conv => whnf) | (refine iteP_intro (fun hb => ?_) (fun hb => ?_) <;> (conv => whnf)))
  (refine ⟨_, hS, ?_⟩; conv => whnf)
  repeat' (first | ((first | refine opt_some (getC_rows rfl rfl (by omega)) ?_ | refine opt_some (by dsimp only; exact getC_lent rfl rfl (by omega)) ?_ | refine opt_some rfl ?_ | refine ⟨_, (by simp only [nf, nl, nm, en, ints, setC_setC, Nat.reduceAdd, Nat.reduceMul]; exact rfl), ?_⟩ | refine ⟨_, pickT rfl, ?_⟩ | refine ⟨_, rfl, ?_⟩ | refine iteP_true rfl ?_ | refine iteP_false rfl ?_ | refine iteP_true ‹_› ?_ | refine iteP_false ‹_› ?_ | refine andK ?_ | refine andA ?_ | refine andT ?_); conv => whnf) | (refine iteP_intro (fun hb => ?_) (fun hb => ?_) <;> (conv => whnf)))
  rfl
set_option maxHeartbeats 16000000 in
set_option maxRecDepth 100000 in
theorem stepsOf_ret (ms : List Nat) (hA : Alpha ms) (hl : ms.length ≤ 8) : Ret Tryd.prog G0 57 [⟨.ro, .agg [i64 ms.length, ints (natI ms)]⟩] ⟨.one (ints (natI (stepL (dep ms) ms.length))), []⟩ := by
  have hml := natI_length ms
  have hcl := cplN_len ms
  have hC := compl_ret ms hl hA.lt
  have hK := cliques_ret (cplN ms) (by omega) (cplN_lt (by omega)) (dep ms) (fun i j hij hj => by
    rw [hcl] at hj
    rw [mutN_bit (by omega) (cplN_lt (by omega)) (by omega), hcl, cplN_bit (by omega) hj, cplN_bit (by omega) (by omega), decide_eq_true hj, decide_eq_true (show i < ms.length by omega), decide_eq_false (show ¬ j = i by omega), decide_eq_false (show ¬ i = j by omega), hA.sym i j]
    cases dep ms j i <;> rfl)
  rw [hcl] at hK
  (refine ret_of_den (E := en 13 [] (fun _ => []) (fun _ => [])) tt_ok mixed Tryd.func57 rfl rfl rfl rfl ?_; refine ⟨by simp, ?_⟩)
  repeat' (first | ((first | refine opt_some (getC_rows rfl rfl (by omega)) ?_ | refine opt_some (by dsimp only; exact getC_lent rfl rfl (by omega)) ?_ | refine opt_some rfl ?_ | refine ⟨_, (by simp only [nf, nl, nm, en, ints, setC_setC, Nat.reduceAdd, Nat.reduceMul]; exact rfl), ?_⟩ | refine ⟨_, pickT rfl, ?_⟩ | refine ⟨_, rfl, ?_⟩ | refine iteP_true rfl ?_ | refine iteP_false rfl ?_ | refine iteP_true ‹_› ?_ | refine iteP_false ‹_› ?_ | refine andK ?_ | refine andA ?_ | refine andT ?_); conv => whnf) | (refine iteP_intro (fun hb => ?_) (fun hb => ?_) <;> (conv => whnf)))
  (refine ⟨_, hC, ?_⟩; conv => whnf)
  repeat' (first | ((first | refine opt_some (getC_rows rfl rfl (by omega)) ?_ | refine opt_some (by dsimp only; exact getC_lent rfl rfl (by omega)) ?_ | refine opt_some rfl ?_ | refine ⟨_, (by simp only [nf, nl, nm, en, ints, setC_setC, Nat.reduceAdd, Nat.reduceMul]; exact rfl), ?_⟩ | refine ⟨_, pickT rfl, ?_⟩ | refine ⟨_, rfl, ?_⟩ | refine iteP_true rfl ?_ | refine iteP_false rfl ?_ | refine iteP_true ‹_› ?_ | refine iteP_false ‹_› ?_ | refine andK ?_ | refine andA ?_ | refine andT ?_); conv => whnf) | (refine iteP_intro (fun hb => ?_) (fun hb => ?_) <;> (conv => whnf)))
  (refine ⟨_, hK, ?_⟩; conv => whnf)
  repeat' (first | ((first | refine opt_some (getC_rows rfl rfl (by omega)) ?_ | refine opt_some (by dsimp only; exact getC_lent rfl rfl (by omega)) ?_ | refine opt_some rfl ?_ | refine ⟨_, (by simp only [nf, nl, nm, en, ints, setC_setC, Nat.reduceAdd, Nat.reduceMul]; exact rfl), ?_⟩ | refine ⟨_, pickT rfl, ?_⟩ | refine ⟨_, rfl, ?_⟩ | refine iteP_true rfl ?_ | refine iteP_false rfl ?_ | refine iteP_true ‹_› ?_ | refine iteP_false ‹_› ?_ | refine andK ?_ | refine andA ?_ | refine andT ?_); conv => whnf) | (refine iteP_intro (fun hb => ?_) (fun hb => ?_) <;> (conv => whnf)))
  rfl
end Go.Proofs.YtihdeagknggeiaaDoor
