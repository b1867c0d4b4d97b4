import Derived.Test.YtihdeagknggeiaaDoorFd
set_option autoImplicit false
set_option linter.unusedSimpArgs false
set_option linter.unusedVariables false
namespace Go.Proofs.YtihdeagknggeiaaDoor
open Go.Den
/-- Natural numbers as Go's. -/
def natI (ms : List Nat) : List Int := ms.map fun m : Nat => (m : Int)
theorem natI_length (ms : List Nat) : (natI ms).length = ms.length := by simp [natI]
theorem natI_get {ms : List Nat} {i : Nat} (h : i < (natI ms).length) : (natI ms)[i] = ((ms[i]'(by rwa [natI_length] at h) : Nat) : Int) := by simp [natI]
theorem natI_set {ms : List Nat} {i m : Nat} : (natI ms).set i (m : Int) = natI (ms.set i m) := by simp [natI]
/-- The converse of a relation, as far as the numbers below i go. -/
def cvN (ms : List Nat) (i : Nat) : List Nat := (List.range ms.length).map fun b => maskN (fun j => (ms.getD j 0).testBit b) i
def cvM (ms : List Nat) (i j : Nat) : List Nat := (List.range ms.length).map fun b => maskN (fun j => (ms.getD j 0).testBit b) i ||| if b ∈ (mems (ms.getD i 0)).take j then 2 ^ i else 0
theorem cvN_length (ms : List Nat) (i : Nat) : (cvN ms i).length = ms.length := by simp [cvN]
theorem cvM_length (ms : List Nat) (i j : Nat) : (cvM ms i j).length = ms.length := by simp [cvM]
theorem cvN_zero (ms : List Nat) : natI (cvN ms 0) = List.replicate ms.length 0 := by
  simp [natI, cvN, maskN, Function.comp_def, List.map_const']
theorem cvM_zero (ms : List Nat) (i : Nat) : cvM ms i 0 = cvN ms i := by simp [cvM, cvN]
theorem cvM_full (ms : List Nat) (i : Nat) (h : ms.length ≤ 64) : cvM ms i (mems (ms.getD i 0)).length = cvN ms (i + 1) := by
  unfold cvM cvN
  refine List.map_congr_left fun b hb => ?_
  have hb := List.mem_range.1 hb
  rw [List.take_length, maskN_or]
  congr 1
  simp only [mems, List.mem_filter, List.mem_range]
  by_cases hp : (ms.getD i 0).testBit b = true
  · rw [if_pos ⟨by omega, hp⟩, if_pos hp]
  · rw [if_neg (fun h => hp h.2), if_neg hp]
theorem cvM_get {ms : List Nat} {i j b : Nat} (h : b < (cvM ms i j).length) : (cvM ms i j)[b] = maskN (fun j => (ms.getD j 0).testBit b) i ||| if b ∈ (mems (ms.getD i 0)).take j then 2 ^ i else 0 := by simp [cvM]
theorem cvM_set {ms : List Nat} {i j b : Nat} (hj : j < (mems (ms.getD i 0)).length) (hb : (mems (ms.getD i 0))[j] = b) (hbl : b < ms.length) :
    (cvM ms i j).set b ((cvM ms i j)[b]'(by rw [cvM_length]; exact hbl) ||| 2 ^ i) = cvM ms i (j + 1) := by
  refine List.ext_getElem (by simp [cvM_length]) fun c h1 h2 => ?_
  have hc : c < (cvM ms i j).length := by simpa using h1
  have ht : (mems (ms.getD i 0)).take (j + 1) = (mems (ms.getD i 0)).take j ++ [b] := by rw [List.take_succ_eq_append_getElem hj, hb]
  rw [List.getElem_set, cvM_get h2, ht]
  split
  · rename_i e
    subst e
    rw [cvM_get, if_pos (show b ∈ (mems (ms.getD i 0)).take j ++ [b] by simp)]
    split
    · rw [Nat.or_assoc, Nat.or_self]
    · rw [Nat.or_zero]
  · rename_i e
    rw [cvM_get hc]
    congr 1
    have : (c ∈ (mems (ms.getD i 0)).take j ++ [b]) ↔ c ∈ (mems (ms.getD i 0)).take j := by
      rw [List.mem_append, List.mem_singleton]
      exact ⟨fun h => h.resolve_right fun h => e h.symm, .inl⟩
    by_cases h3 : c ∈ (mems (ms.getD i 0)).take j
    · rw [if_pos h3, if_pos (this.2 h3)]
    · rw [if_neg h3, if_neg (fun h => h3 (this.1 h))]
theorem cvM_lt {ms : List Nat} {i j b : Nat} (h : b < (cvM ms i j).length) : (cvM ms i j)[b] < 2 ^ (i + 1) := by
  rw [cvM_get]
  have h1 := maskN_lt (fun j => (ms.getD j 0).testBit b) i
  refine Nat.or_lt_two_pow (by rw [Nat.pow_succ]; omega) ?_
  split
  · rw [Nat.pow_succ]; have := Nat.two_pow_pos i; omega
  · exact Nat.two_pow_pos _
theorem mems_lt {m n b : Nat} (h : m < 2 ^ n) (hb : b ∈ mems m) : b < n ∧ b < 64 := by
  simp only [mems, List.mem_filter, List.mem_range] at hb
  refine ⟨?_, hb.1⟩
  rcases Nat.lt_or_ge b n with h1 | h1
  · exact h1
  · have : m.testBit b = false := Nat.testBit_lt_two_pow (Nat.lt_of_lt_of_le h (Nat.pow_le_pow_right (by decide) h1))
    rw [this] at hb
    exact absurd hb.2 (by simp)
set_option maxHeartbeats 16000000 in
set_option maxRecDepth 100000 in
theorem converse_ret (ms : List Nat) (hl : ms.length ≤ 24) (hm : ∀ m ∈ ms, m < 2 ^ ms.length) : Ret Tryd.prog G0 100 [⟨.ro, .one (ints (natI ms))⟩] ⟨.one (ints (natI (cvN ms ms.length))), []⟩ := by
  have hnl := natI_length ms
  (refine ret_of_den (E := en 36 [] (fun | 3 => [(3, 0), (12, 0), (13, 0), (11, 1)] | 6 => [(3, 0), (12, 0), (13, 0), (19, 0), (20, 0), (21, 0), (4, 0), (11, 1)] | _ => []) (fun _ => [])) tt_ok mixed Tryd.func100 rfl rfl rfl rfl ?_; refine ⟨by simp, ?_⟩)
  repeat' (first | ((first | refine opt_some (getC_rows rfl rfl (by omega)) ?_ | refine opt_some (by dsimp only; exact getC_lent rfl rfl (by omega)) ?_ | refine opt_some rfl ?_ | refine ⟨_, (by simp only [nf, nl, nm, en, ints, setC_setC, Nat.reduceAdd, Nat.reduceMul, Int.toNat_natCast]; exact rfl), ?_⟩ | refine ⟨_, pickT rfl, ?_⟩ | refine ⟨_, rfl, ?_⟩ | refine iteP_true rfl ?_ | refine iteP_false rfl ?_ | refine iteP_true ‹_› ?_ | refine iteP_false ‹_› ?_ | refine andK ?_ | refine andA ?_ | refine andT ?_); conv => whnf) | (refine iteP_intro (fun hb => ?_) (fun hb => ?_) <;> (conv => whnf)))
  refine ⟨fun k vs => ∃ i : Nat, i ≤ ms.length ∧ vs = [.one (ints (natI (cvN ms i))), .one (i64 ms.length), .one (i64 i), .one (.shd (ints (natI ms)))] ∧ k = ms.length - i, rfl, ⟨_, 0, by omega, ?_, rfl⟩, ?_⟩
  · have : List.replicate (natI ms).length (Cell.c (.int .i64 0)) = (natI (cvN ms 0)).map i64 := by rw [cvN_zero, hnl, List.map_replicate]
    rw [this, hnl]
    simp only [ints, natI_length, cvN_length]
    rfl
  · rintro k vs ⟨i, hi, rfl, rfl⟩
    repeat (first | ((first | refine opt_some (getC_rows rfl rfl (by omega)) ?_ | refine opt_some (by dsimp only; exact getC_lent rfl rfl (by omega)) ?_ | refine opt_some rfl ?_ | refine ⟨_, (by simp only [nf, nl, nm, en, ints, setC_setC, Nat.reduceAdd, Nat.reduceMul]; exact rfl), ?_⟩ | refine ⟨_, pickT rfl, ?_⟩ | refine ⟨_, rfl, ?_⟩ | refine iteP_true rfl ?_ | refine iteP_false rfl ?_ | refine iteP_true ‹_› ?_ | refine iteP_false ‹_› ?_ | refine andK ?_ | refine andA ?_ | refine andT ?_); conv => whnf))
    refine iteP_intro (fun hb => ?_) (fun hb => ?_) <;> (conv => whnf)
    · have hi' : i < ms.length := by have := leT hb; omega
      have hmi : ms.getD i 0 < 2 ^ ms.length := by
        rw [List.getD_eq_getElem?_getD, List.getElem?_eq_getElem hi']
        exact hm _ (List.getElem_mem _)
      have hge : (natI ms)[i]'(by rw [hnl]; exact hi') = ((ms.getD i 0 : Nat) : Int) := by
        rw [natI_get, List.getD_eq_getElem?_getD, List.getElem?_eq_getElem hi', Option.getD_some]
      have h63 : ms.getD i 0 < 2 ^ 63 := Nat.lt_of_lt_of_le hmi (Nat.pow_le_pow_right (by decide) (by omega))
      repeat (first | ((first | refine opt_some (getC_rows rfl rfl (by omega)) ?_ | refine opt_some (by dsimp only; exact getC_lent rfl rfl (by omega)) ?_ | refine opt_some rfl ?_ | refine ⟨_, (by simp only [nf, nl, nm, en, ints, setC_setC, Nat.reduceAdd, Nat.reduceMul, hge]; exact rfl), ?_⟩ | refine ⟨_, pickT rfl, ?_⟩ | refine ⟨_, rfl, ?_⟩ | refine iteP_true rfl ?_ | refine iteP_false rfl ?_ | refine iteP_true ‹_› ?_ | refine iteP_false ‹_› ?_ | refine andK ?_ | refine andA ?_ | refine andT ?_); conv => whnf))
      (refine ⟨_, members_ret _ h63, ?_⟩; conv => whnf)
      repeat (first | ((first | refine opt_some (getC_rows rfl rfl (by omega)) ?_ | refine opt_some (by dsimp only; exact getC_lent rfl rfl (by omega)) ?_ | refine opt_some rfl ?_ | refine ⟨_, (by simp only [nf, nl, nm, en, ints, setC_setC, Nat.reduceAdd, Nat.reduceMul, hge]; exact rfl), ?_⟩ | refine ⟨_, pickT rfl, ?_⟩ | refine ⟨_, rfl, ?_⟩ | refine iteP_true rfl ?_ | refine iteP_false rfl ?_ | refine iteP_true ‹_› ?_ | refine iteP_false ‹_› ?_ | refine andK ?_ | refine andA ?_ | refine andT ?_); conv => whnf))
      refine ⟨fun k vs => ∃ j : Nat, j ≤ (mems (ms.getD i 0)).length ∧ vs = [.one (ints (natI (cvM ms i j))), .one (i64 ms.length), .one (i64 i), .one (ints (natI (mems (ms.getD i 0)))), .one (i64 (mems (ms.getD i 0)).length), .one (i64 j), .one (i64 i), .one (.shd (ints (natI ms)))] ∧ k = (mems (ms.getD i 0)).length - j, rfl, ⟨_, 0, by omega, ?_, rfl⟩, ?_⟩
      · rw [cvM_zero]
        simp only [ints, natI_length, cvN_length, natI, List.length_map]
        rfl
      · rintro k vs ⟨j, hj, rfl, rfl⟩
        repeat (first | ((first | refine opt_some (getC_rows rfl rfl (by omega)) ?_ | refine opt_some (by dsimp only; exact getC_lent rfl rfl (by omega)) ?_ | refine opt_some rfl ?_ | refine ⟨_, (by simp only [nf, nl, nm, en, ints, setC_setC, Nat.reduceAdd, Nat.reduceMul]; exact rfl), ?_⟩ | refine ⟨_, pickT rfl, ?_⟩ | refine ⟨_, rfl, ?_⟩ | refine iteP_true rfl ?_ | refine iteP_false rfl ?_ | refine iteP_true ‹_› ?_ | refine iteP_false ‹_› ?_ | refine andK ?_ | refine andA ?_ | refine andT ?_); conv => whnf))
        refine iteP_intro (fun hb => ?_) (fun hb => ?_) <;> (conv => whnf)
        · have hj' : j < (mems (ms.getD i 0)).length := by have := leT hb; omega
          obtain ⟨hbn, hb64⟩ := mems_lt hmi (List.getElem_mem hj')
          generalize hbe : (mems (ms.getD i 0))[j] = b at hbn hb64
          have hgb : (natI (mems (ms.getD i 0)))[j]'(by rw [natI_length]; exact hj') = ((b : Nat) : Int) := by rw [natI_get, hbe]
          have hbl : b < (cvM ms i j).length := by rw [cvM_length]; exact hbn
          have hgc : (natI (cvM ms i j))[b]'(by rw [natI_length]; exact hbl) = (((cvM ms i j)[b] : Nat) : Int) := natI_get _
          have hcl := cvM_length ms i j
          have hcn := natI_length (cvM ms i j)
          have hmn := natI_length (mems (ms.getD i 0))
          have hm64 := mems_length (ms.getD i 0)
          have hp := pow_i64 (i := i) (by omega)
          have hx63 : (cvM ms i j)[b] < 2 ^ 63 := Nat.lt_of_lt_of_le (cvM_lt hbl) (Nat.pow_le_pow_right (by decide) (by omega))
          repeat (first | ((first | refine opt_some (getC_rows rfl rfl (by omega)) ?_ | refine opt_some (by dsimp only; exact getC_lent rfl rfl (by omega)) ?_ | refine opt_some rfl ?_ | refine ⟨_, (by simp only [nf, nl, nm, en, ints, setC_setC, Nat.reduceAdd, Nat.reduceMul, hgb, hgc]; exact rfl), ?_⟩ | refine ⟨_, pickT rfl, ?_⟩ | refine ⟨_, rfl, ?_⟩ | refine iteP_true rfl ?_ | refine iteP_false rfl ?_ | refine iteP_true ‹_› ?_ | refine iteP_false ‹_› ?_ | refine andK ?_ | refine andA ?_ | refine andT ?_); conv => whnf))
          (refine ⟨_, one_retN i (by omega), ?_⟩; conv => whnf)
          repeat (first | ((first | refine opt_some (getC_rows rfl rfl (by omega)) ?_ | refine opt_some (by dsimp only; exact getC_lent rfl rfl (by omega)) ?_ | refine opt_some rfl ?_ | refine ⟨_, (by simp only [nf, nl, nm, en, ints, setC_setC, Nat.reduceAdd, Nat.reduceMul, hgb, hgc]; exact rfl), ?_⟩ | refine ⟨_, pickT rfl, ?_⟩ | refine ⟨_, rfl, ?_⟩ | refine iteP_true rfl ?_ | refine iteP_false rfl ?_ | refine iteP_true ‹_› ?_ | refine iteP_false ‹_› ?_ | refine andK ?_ | refine andA ?_ | refine andT ?_); conv => whnf))
          refine ⟨⟨by simp [natI, cvM_length]; omega, plain_i64 _⟩, ?_⟩
          conv => whnf
          refine ⟨_, by simp only [nf, nl, nm, en, ints, setC_setC, Nat.reduceAdd, Nat.reduceMul]; rw [or_i64 hx63 hp, splice_at rfl (by rw [natI_length]; exact hbl), natI_set, cvM_set hj' hbe hbn], ?_⟩
          conv => whnf
          repeat (first | ((first | refine opt_some (getC_rows rfl rfl (by omega)) ?_ | refine opt_some (by dsimp only; exact getC_lent rfl rfl (by omega)) ?_ | refine opt_some rfl ?_ | refine ⟨_, (by simp only [nf, nl, nm, en, ints, setC_setC, Nat.reduceAdd, Nat.reduceMul]; exact rfl), ?_⟩ | refine ⟨_, pickT rfl, ?_⟩ | refine ⟨_, rfl, ?_⟩ | refine iteP_true rfl ?_ | refine iteP_false rfl ?_ | refine iteP_true ‹_› ?_ | refine iteP_false ‹_› ?_ | refine andK ?_ | refine andA ?_ | refine andT ?_); conv => whnf))
          refine ⟨_, ?_, j + 1, hj', ?_, rfl⟩
          · omega
          · rw [wrap_succ (by omega)]
            simp only [ints, natI_length, cvM_length]
            rfl
        · obtain rfl : j = (mems (ms.getD i 0)).length := by have := leF hb; omega
          repeat (first | ((first | refine opt_some (getC_rows rfl rfl (by omega)) ?_ | refine opt_some (by dsimp only; exact getC_lent rfl rfl (by omega)) ?_ | refine opt_some rfl ?_ | refine ⟨_, (by simp only [nf, nl, nm, en, ints, setC_setC, Nat.reduceAdd, Nat.reduceMul]; exact rfl), ?_⟩ | refine ⟨_, pickT rfl, ?_⟩ | refine ⟨_, rfl, ?_⟩ | refine iteP_true rfl ?_ | refine iteP_false rfl ?_ | refine iteP_true ‹_› ?_ | refine iteP_false ‹_› ?_ | refine andK ?_ | refine andA ?_ | refine andT ?_); conv => whnf))
          refine ⟨_, ?_, i + 1, hi', ?_, rfl⟩
          · omega
          · rw [wrap_succ (by omega), cvM_full ms i (by omega)]
            simp only [ints, natI_length, cvN_length]
            rfl
    · obtain rfl : i = ms.length := by have := leF hb; omega
      repeat' (first | ((first | refine opt_some (getC_rows rfl rfl (by omega)) ?_ | refine opt_some (by dsimp only; exact getC_lent rfl rfl (by omega)) ?_ | refine opt_some rfl ?_ | refine ⟨_, (by simp only [nf, nl, nm, en, ints, setC_setC, Nat.reduceAdd, Nat.reduceMul]; exact rfl), ?_⟩ | refine ⟨_, pickT rfl, ?_⟩ | refine ⟨_, rfl, ?_⟩ | refine iteP_true rfl ?_ | refine iteP_false rfl ?_ | refine iteP_true ‹_› ?_ | refine iteP_false ‹_› ?_ | refine andK ?_ | refine andA ?_ | refine andT ?_); conv => whnf) | (refine iteP_intro (fun hb => ?_) (fun hb => ?_) <;> (conv => whnf)))
      simp [resSV, isAggS, ints, natI_length, cvN_length]
end Go.Proofs.YtihdeagknggeiaaDoor
