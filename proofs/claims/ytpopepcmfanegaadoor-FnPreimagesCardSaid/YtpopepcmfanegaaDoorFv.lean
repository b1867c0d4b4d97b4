import Derived.Test.YtpopepcmfanegaaDoorFu
set_option autoImplicit false
set_option linter.unusedSimpArgs false
set_option linter.unusedVariables false
namespace Go.Proofs.YtpopepcmfanegaaDoor
open Go.Den
set_option maxHeartbeats 4000000 in
set_option maxRecDepth 100000 in
theorem l01Same_ret (a b : List Int) (ha : a.length < 2 ^ 62) : Ret Tryd.prog G0 105 [⟨.ro, .one (ints a)⟩, ⟨.ro, .one (ints b)⟩] ⟨.one (.c (.bool (decide (a = b)))), []⟩ := by
  (refine ret_of_den (E := en 26 [] (fun _ => [(5, 0), (0, 1), (1, 1)]) (fun _ => [])) tt_ok mixed Tryd.func105 rfl rfl rfl rfl ?_; refine ⟨by simp, ?_⟩)
  repeat' (first | ((first | refine opt_some (getC_rows rfl rfl (by omega)) ?_ | refine opt_some (by dsimp only; exact getC_lent rfl rfl (by omega)) ?_ | refine opt_some rfl ?_ | refine ⟨_, (by simp only [nf, nl, nm, en, ints, setC_setC, Nat.reduceAdd, Nat.reduceMul]; exact rfl), ?_⟩ | refine ⟨_, pickT rfl, ?_⟩ | refine ⟨_, rfl, ?_⟩ | refine iteP_true rfl ?_ | refine iteP_false rfl ?_ | refine iteP_true ‹_› ?_ | refine iteP_false ‹_› ?_ | refine andK ?_ | refine andA ?_ | refine andT ?_); conv => whnf) | (refine iteP_intro (fun hb => ?_) (fun hb => ?_) <;> (conv => whnf)))
  · have : a ≠ b := fun e => by simp [e] at hb
    exact endB (by simp [this])
  have hl : a.length = b.length := Int.natCast_inj.1 (neF hb)
  refine ⟨fun k vs => ∃ i : Nat, i ≤ a.length ∧ (∀ j < i, a[j]? = b[j]?) ∧ vs = [.one (i64 i), .one (.shd (ints a)), .one (.shd (ints b))] ∧ k = a.length - i, rfl, ⟨_, 0, by omega, by simp, rfl, rfl⟩, ?_⟩
  rintro k vs ⟨i, hi, hs, rfl, rfl⟩
  repeat (first | ((first | refine opt_some (getC_rows rfl rfl (by omega)) ?_ | refine opt_some (by dsimp only; exact getC_lent rfl rfl (by omega)) ?_ | refine opt_some rfl ?_ | refine ⟨_, (by simp only [nf, nl, nm, en, ints, setC_setC, Nat.reduceAdd, Nat.reduceMul]; exact rfl), ?_⟩ | refine ⟨_, pickT rfl, ?_⟩ | refine ⟨_, rfl, ?_⟩ | refine iteP_true rfl ?_ | refine iteP_false rfl ?_ | refine iteP_true ‹_› ?_ | refine iteP_false ‹_› ?_ | refine andK ?_ | refine andA ?_ | refine andT ?_); conv => whnf))
  refine iteP_intro (fun hb => ?_) (fun hb => ?_) <;> (conv => whnf)
  · have hi' : i < a.length := by have := leT hb; omega
    repeat' (first | ((first | refine opt_some (getC_rows rfl rfl (by omega)) ?_ | refine opt_some (by dsimp only; exact getC_lent rfl rfl (by omega)) ?_ | refine opt_some rfl ?_ | refine ⟨_, (by simp only [nf, nl, nm, en, ints, setC_setC, Nat.reduceAdd, Nat.reduceMul]; exact rfl), ?_⟩ | refine ⟨_, pickT rfl, ?_⟩ | refine ⟨_, rfl, ?_⟩ | refine iteP_true rfl ?_ | refine iteP_false rfl ?_ | refine iteP_true ‹_› ?_ | refine iteP_false ‹_› ?_ | refine andK ?_ | refine andA ?_ | refine andT ?_); conv => whnf) | (refine iteP_intro (fun hb => ?_) (fun hb => ?_) <;> (conv => whnf)))
    · refine endB ?_
      have : a ≠ b := fun e => by subst e; simp at hb
      simp [this]
    · refine ⟨_, ?_, i + 1, hi', fun j hj => ?_, by rw [wrap_succ (by omega)]; rfl, rfl⟩
      · omega
      · rcases Nat.lt_succ_iff_lt_or_eq.1 hj with h | rfl
        · exact hs j h
        · rw [List.getElem?_eq_getElem hi', List.getElem?_eq_getElem (by omega)]
          simpa using hb
  · repeat' (first | ((first | refine opt_some (getC_rows rfl rfl (by omega)) ?_ | refine opt_some (by dsimp only; exact getC_lent rfl rfl (by omega)) ?_ | refine opt_some rfl ?_ | refine ⟨_, (by simp only [nf, nl, nm, en, ints, setC_setC, Nat.reduceAdd, Nat.reduceMul]; exact rfl), ?_⟩ | refine ⟨_, pickT rfl, ?_⟩ | refine ⟨_, rfl, ?_⟩ | refine iteP_true rfl ?_ | refine iteP_false rfl ?_ | refine iteP_true ‹_› ?_ | refine iteP_false ‹_› ?_ | refine andK ?_ | refine andA ?_ | refine andT ?_); conv => whnf) | (refine iteP_intro (fun hb => ?_) (fun hb => ?_) <;> (conv => whnf)))
    obtain rfl : i = a.length := by have := leF hb; omega
    refine endB ?_
    have : a = b := List.ext_getElem? fun j => by
      by_cases hj : j < a.length
      · exact hs j hj
      · rw [List.getElem?_eq_none (by omega), List.getElem?_eq_none (by omega)]
    rw [this]; simp
theorem cut_length {ms : List Nat} : ∀ {u v r : List Nat}, cut ms u v = some r → r.length + u.length = v.length
  | [], v, r, h => by simp only [cut, Option.some.injEq] at h; subst h; rfl
  | a :: u, v, r, h => by
    simp only [cut] at h
    split at h
    · rename_i hc
      have h1 := cut_length h
      have h2 := erase_length (canF_mem hc)
      have h3 := List.length_pos_of_mem (canF_mem hc)
      rw [List.length_cons]
      omega
    · cases h
/-- What is left of a word, or nil. -/
def cutC : Option (List Nat) → Cell
  | none => nilS
  | some r => ints (natI r)
def cutS : Option (List Nat) → Cell
  | none => nilS
  | some r => .shd (ints (natI r))
set_option maxHeartbeats 4000000 in
set_option maxRecDepth 100000 in
theorem quotient_ret (ms u v : List Nat) (hA : Alpha ms) (hl : ms.length ≤ 16) (hu : Wd ms u) (hv : Wd ms v) (hx : u.length ≤ 2 ^ 39) (hy : v.length ≤ 2 ^ 39) : Ret Tryd.prog G0 65 [⟨.ro, .one (ints (natI ms))⟩, ⟨.ro, .one (ints (natI u))⟩, ⟨.ro, .one (ints (natI v))⟩] ⟨.tup [(false, [cutS (cut ms u v)]), (false, [.c (.bool (cut ms u v).isSome)])], []⟩ := by
  have hul := natI_length u
  have hvl := natI_length v
  (refine ret_of_den (E := en 27 [] (fun _ => [(11, 0), (12, 0), (0, 1), (2, 1), (10, 1)]) (fun _ => [])) tt_ok mixed Tryd.func65 rfl rfl rfl rfl ?_; refine ⟨by simp, ?_⟩)
  repeat (first | ((first | refine opt_some (getC_rows rfl rfl (by omega)) ?_ | refine opt_some (by dsimp only; exact getC_lent rfl rfl (by omega)) ?_ | refine opt_some rfl ?_ | refine ⟨_, (by simp only [nf, nl, nm, en, ints, setC_setC, Nat.reduceAdd, Nat.reduceMul]; exact rfl), ?_⟩ | refine ⟨_, pickT rfl, ?_⟩ | refine ⟨_, rfl, ?_⟩ | refine iteP_true rfl ?_ | refine iteP_false rfl ?_ | refine iteP_true ‹_› ?_ | refine iteP_false ‹_› ?_ | refine andK ?_ | refine andA ?_ | refine andT ?_); conv => whnf))
  refine ⟨fun k vs => ∃ (i : Nat) (r : List Nat), i ≤ u.length ∧ Wd ms r ∧ r.length ≤ v.length ∧ cut ms u v = cut ms (u.drop i) r ∧ vs = [.one (i64 u.length), .one (i64 i), .one (.shd (ints (natI ms))), .one (.shd (ints (natI r))), .one (.shd (ints (natI u)))] ∧ k = u.length - i, rfl, ⟨_, 0, v, by omega, hv, Nat.le_refl _, rfl, ?_, rfl⟩, ?_⟩
  · rw [← hul]
    rfl
  rintro k vs ⟨i, r, hi, hr, hrv, hc, rfl, rfl⟩
  have hrl := natI_length r
  repeat (first | ((first | refine opt_some (getC_rows rfl rfl (by omega)) ?_ | refine opt_some (by dsimp only; exact getC_lent rfl rfl (by omega)) ?_ | refine opt_some rfl ?_ | refine ⟨_, (by simp only [nf, nl, nm, en, ints, setC_setC, Nat.reduceAdd, Nat.reduceMul]; exact rfl), ?_⟩ | refine ⟨_, pickT rfl, ?_⟩ | refine ⟨_, rfl, ?_⟩ | refine iteP_true rfl ?_ | refine iteP_false rfl ?_ | refine iteP_true ‹_› ?_ | refine iteP_false ‹_› ?_ | refine andK ?_ | refine andA ?_ | refine andT ?_); conv => whnf))
  refine iteP_intro (fun hb => ?_) (fun hb => ?_) <;> (conv => whnf)
  · have hi' : i < u.length := by have := leT hb; omega
    have hg : (natI u)[i]'(by rw [hul]; exact hi') = ((u.getD i 0 : Nat) : Int) := natI_getD hi'
    have ha := wd_lt hu hi'
    rw [drop_getD hi'] at hc
    generalize u.getD i 0 = a at hg ha hc
    have hfi := firsts_ret ms r (by omega) hA.lt hr (by omega)
    have hhas := has_ret (fstM ms r) a (maskN_lt63 _ (by omega)) (by omega)
    have hbit : (fstM ms r).testBit a = canF ms a r := by
      unfold fstM
      rw [maskN_bit, decide_eq_true ha, Bool.true_and]
    rw [hbit] at hhas
    repeat (first | ((first | refine opt_some (getC_rows rfl rfl (by omega)) ?_ | refine opt_some (by dsimp only; exact getC_lent rfl rfl (by omega)) ?_ | refine opt_some rfl ?_ | refine ⟨_, (by simp only [nf, nl, nm, en, ints, setC_setC, Nat.reduceAdd, Nat.reduceMul, hg]; exact rfl), ?_⟩ | refine ⟨_, pickT rfl, ?_⟩ | refine ⟨_, rfl, ?_⟩ | refine iteP_true rfl ?_ | refine iteP_false rfl ?_ | refine iteP_true ‹_› ?_ | refine iteP_false ‹_› ?_ | refine andK ?_ | refine andA ?_ | refine andT ?_); conv => whnf))
    (refine ⟨_, hfi, ?_⟩; conv => whnf)
    repeat (first | ((first | refine opt_some (getC_rows rfl rfl (by omega)) ?_ | refine opt_some (by dsimp only; exact getC_lent rfl rfl (by omega)) ?_ | refine opt_some rfl ?_ | refine ⟨_, (by simp only [nf, nl, nm, en, ints, setC_setC, Nat.reduceAdd, Nat.reduceMul, hg]; exact rfl), ?_⟩ | refine ⟨_, pickT rfl, ?_⟩ | refine ⟨_, rfl, ?_⟩ | refine iteP_true rfl ?_ | refine iteP_false rfl ?_ | refine iteP_true ‹_› ?_ | refine iteP_false ‹_› ?_ | refine andK ?_ | refine andA ?_ | refine andT ?_); conv => whnf))
    (refine ⟨_, hhas, ?_⟩; conv => whnf)
    cases hca : canF ms a r with
    | false =>
      rw [cut_step_f hca] at hc
      rw [hc]
      repeat' (first | ((first | refine opt_some (getC_rows rfl rfl (by omega)) ?_ | refine opt_some (by dsimp only; exact getC_lent rfl rfl (by omega)) ?_ | refine opt_some rfl ?_ | refine ⟨_, (by simp only [nf, nl, nm, en, ints, setC_setC, Nat.reduceAdd, Nat.reduceMul]; exact rfl), ?_⟩ | refine ⟨_, pickT rfl, ?_⟩ | refine ⟨_, rfl, ?_⟩ | refine iteP_true rfl ?_ | refine iteP_false rfl ?_ | refine iteP_true ‹_› ?_ | refine iteP_false ‹_› ?_ | refine andK ?_ | refine andA ?_ | refine andT ?_); conv => whnf) | (refine iteP_intro (fun hb => ?_) (fun hb => ?_) <;> (conv => whnf)))
      rfl
    | true =>
      rw [cut_step_t hca] at hc
      have hwo := without_ret r a (by omega) (canF_mem hca)
      have hel := erase_length (canF_mem hca)
      repeat (first | ((first | refine opt_some (getC_rows rfl rfl (by omega)) ?_ | refine opt_some (by dsimp only; exact getC_lent rfl rfl (by omega)) ?_ | refine opt_some rfl ?_ | refine ⟨_, (by simp only [nf, nl, nm, en, ints, setC_setC, Nat.reduceAdd, Nat.reduceMul]; exact rfl), ?_⟩ | refine ⟨_, pickT rfl, ?_⟩ | refine ⟨_, rfl, ?_⟩ | refine iteP_true rfl ?_ | refine iteP_false rfl ?_ | refine iteP_true ‹_› ?_ | refine iteP_false ‹_› ?_ | refine andK ?_ | refine andA ?_ | refine andT ?_); conv => whnf))
      (refine ⟨_, hwo, ?_⟩; conv => whnf)
      repeat (first | ((first | refine opt_some (getC_rows rfl rfl (by omega)) ?_ | refine opt_some (by dsimp only; exact getC_lent rfl rfl (by omega)) ?_ | refine opt_some rfl ?_ | refine ⟨_, (by simp only [nf, nl, nm, en, ints, setC_setC, Nat.reduceAdd, Nat.reduceMul]; exact rfl), ?_⟩ | refine ⟨_, pickT rfl, ?_⟩ | refine ⟨_, rfl, ?_⟩ | refine iteP_true rfl ?_ | refine iteP_false rfl ?_ | refine iteP_true ‹_› ?_ | refine iteP_false ‹_› ?_ | refine andK ?_ | refine andA ?_ | refine andT ?_); conv => whnf))
      refine ⟨_, ?_, i + 1, r.erase a, hi', hr.erase a, by omega, hc, ?_, rfl⟩
      · omega
      · rw [wrap_succ (by omega)]
        rfl
  · obtain rfl : i = u.length := by have := leF hb; omega
    rw [List.drop_length, cut] at hc
    rw [hc]
    repeat' (first | ((first | refine opt_some (getC_rows rfl rfl (by omega)) ?_ | refine opt_some (by dsimp only; exact getC_lent rfl rfl (by omega)) ?_ | refine opt_some rfl ?_ | refine ⟨_, (by simp only [nf, nl, nm, en, ints, setC_setC, Nat.reduceAdd, Nat.reduceMul]; exact rfl), ?_⟩ | refine ⟨_, pickT rfl, ?_⟩ | refine ⟨_, rfl, ?_⟩ | refine iteP_true rfl ?_ | refine iteP_false rfl ?_ | refine iteP_true ‹_› ?_ | refine iteP_false ‹_› ?_ | refine andK ?_ | refine andA ?_ | refine andT ?_); conv => whnf) | (refine iteP_intro (fun hb => ?_) (fun hb => ?_) <;> (conv => whnf)))
    rfl
set_option maxHeartbeats 4000000 in
set_option maxRecDepth 100000 in
theorem l05Cut_ret (ms u v : List Nat) (hA : Alpha ms) (hl : ms.length ≤ 16) (hu : Wd ms u) (hv : Wd ms v) (hx : u.length ≤ 2 ^ 39) (hy : v.length ≤ 2 ^ 39) : Ret Tryd.prog G0 155 [⟨.ro, .agg [i64 ms.length, ints (natI ms)]⟩, ⟨.ro, .one (ints (natI u))⟩, ⟨.ro, .one (ints (natI v))⟩] ⟨.tup [(false, [cutC (cut ms u v)]), (false, [.c (.bool (cut ms u v).isSome)])], []⟩ := by
  have hul := natI_length u
  have hvl := natI_length v
  (refine ret_of_den (E := en 32 [] (fun _ => [(3, 0), (8, 0), (9, 0), (1, 1)]) (fun _ => [])) tt_ok mixed Tryd.func155 rfl rfl rfl rfl ?_; refine ⟨by simp, ?_⟩)
  repeat (first | ((first | refine opt_some (getC_rows rfl rfl (by omega)) ?_ | refine opt_some (by dsimp only; exact getC_lent rfl rfl (by omega)) ?_ | refine opt_some rfl ?_ | refine ⟨_, (by simp only [nf, nl, nm, en, ints, setC_setC, Nat.reduceAdd, Nat.reduceMul]; exact rfl), ?_⟩ | refine ⟨_, pickT rfl, ?_⟩ | refine ⟨_, rfl, ?_⟩ | refine iteP_true rfl ?_ | refine iteP_false rfl ?_ | refine iteP_true ‹_› ?_ | refine iteP_false ‹_› ?_ | refine andK ?_ | refine andA ?_ | refine andT ?_); conv => whnf))
  (refine ⟨_, l01Own_ret (natI v) (by omega), ?_⟩; conv => whnf)
  repeat (first | ((first | refine opt_some (getC_rows rfl rfl (by omega)) ?_ | refine opt_some (by dsimp only; exact getC_lent rfl rfl (by omega)) ?_ | refine opt_some rfl ?_ | refine ⟨_, (by simp only [nf, nl, nm, en, ints, setC_setC, Nat.reduceAdd, Nat.reduceMul]; exact rfl), ?_⟩ | refine ⟨_, pickT rfl, ?_⟩ | refine ⟨_, rfl, ?_⟩ | refine iteP_true rfl ?_ | refine iteP_false rfl ?_ | refine iteP_true ‹_› ?_ | refine iteP_false ‹_› ?_ | refine andK ?_ | refine andA ?_ | refine andT ?_); conv => whnf))
  refine ⟨fun k vs => ∃ (i : Nat) (r : List Nat), i ≤ u.length ∧ Wd ms r ∧ r.length ≤ v.length ∧ cut ms u v = cut ms (u.drop i) r ∧ vs = [.one (.ptr [i64 ms.length, .shd (ints (natI ms))]), .one (ints (natI r)), .one (i64 i), .one (.shd (ints (natI u)))] ∧ k = u.length - i, rfl, ⟨_, 0, v, by omega, hv, Nat.le_refl _, rfl, rfl, rfl⟩, ?_⟩
  rintro k vs ⟨i, r, hi, hr, hrv, hc, rfl, rfl⟩
  have hrl := natI_length r
  repeat (first | ((first | refine opt_some (getC_rows rfl rfl (by omega)) ?_ | refine opt_some (by dsimp only; exact getC_lent rfl rfl (by omega)) ?_ | refine opt_some rfl ?_ | refine ⟨_, (by simp only [nf, nl, nm, en, ints, setC_setC, Nat.reduceAdd, Nat.reduceMul]; exact rfl), ?_⟩ | refine ⟨_, pickT rfl, ?_⟩ | refine ⟨_, rfl, ?_⟩ | refine iteP_true rfl ?_ | refine iteP_false rfl ?_ | refine iteP_true ‹_› ?_ | refine iteP_false ‹_› ?_ | refine andK ?_ | refine andA ?_ | refine andT ?_); conv => whnf))
  refine iteP_intro (fun hb => ?_) (fun hb => ?_) <;> (conv => whnf)
  · have hi' : i < u.length := by have := leT hb; omega
    have hg : (natI u)[i]'(by rw [hul]; exact hi') = ((u.getD i 0 : Nat) : Int) := natI_getD hi'
    have ha := wd_lt hu hi'
    rw [drop_getD hi'] at hc
    have hfs := frI_spec (ms := ms) (a := u.getD i 0) r 0
    have hfr := l03First_ret ms r (u.getD i 0) hl hA.lt hr (by omega) (by omega)
    generalize u.getD i 0 = a at hg ha hc hfs hfr
    repeat (first | ((first | refine opt_some (getC_rows rfl rfl (by omega)) ?_ | refine opt_some (by dsimp only; exact getC_lent rfl rfl (by omega)) ?_ | refine opt_some rfl ?_ | refine ⟨_, (by simp only [nf, nl, nm, en, ints, setC_setC, Nat.reduceAdd, Nat.reduceMul, hg]; exact rfl), ?_⟩ | refine ⟨_, pickT rfl, ?_⟩ | refine ⟨_, rfl, ?_⟩ | refine iteP_true rfl ?_ | refine iteP_false rfl ?_ | refine iteP_true ‹_› ?_ | refine iteP_false ‹_› ?_ | refine andK ?_ | refine andA ?_ | refine andT ?_); conv => whnf))
    rcases hfs with ⟨h1, j, h2, h3, h4⟩ | ⟨h1, h2⟩
    · have h3 : frI ms a r 0 = (j : Int) := by rw [show (0 : Int) = ((0 : Nat) : Int) from rfl, h3, Nat.zero_add]
      rw [h3] at hfr
      rw [cut_step_t h1] at hc
      have hwo := l03Without_ret r j (by omega) h2
      rw [h4] at hwo
      have h5 : decide ((j : Int) < 0) = false := decide_eq_false (by omega)
      have hel := erase_length (canF_mem h1)
      (refine ⟨_, hfr, ?_⟩; conv => whnf)
      repeat (first | ((first | refine opt_some (getC_rows rfl rfl (by omega)) ?_ | refine opt_some (by dsimp only; exact getC_lent rfl rfl (by omega)) ?_ | refine opt_some rfl ?_ | refine ⟨_, (by simp only [nf, nl, nm, en, ints, setC_setC, Nat.reduceAdd, Nat.reduceMul]; exact rfl), ?_⟩ | refine ⟨_, pickT rfl, ?_⟩ | refine ⟨_, rfl, ?_⟩ | refine iteP_true rfl ?_ | refine iteP_false rfl ?_ | refine iteP_true ‹_› ?_ | refine iteP_false ‹_› ?_ | refine andK ?_ | refine andA ?_ | refine andT ?_); conv => whnf))
      (refine ⟨_, hwo, ?_⟩; conv => whnf)
      repeat (first | ((first | refine opt_some (getC_rows rfl rfl (by omega)) ?_ | refine opt_some (by dsimp only; exact getC_lent rfl rfl (by omega)) ?_ | refine opt_some rfl ?_ | refine ⟨_, (by simp only [nf, nl, nm, en, ints, setC_setC, Nat.reduceAdd, Nat.reduceMul]; exact rfl), ?_⟩ | refine ⟨_, pickT rfl, ?_⟩ | refine ⟨_, rfl, ?_⟩ | refine iteP_true rfl ?_ | refine iteP_false rfl ?_ | refine iteP_true ‹_› ?_ | refine iteP_false ‹_› ?_ | refine andK ?_ | refine andA ?_ | refine andT ?_); conv => whnf))
      refine ⟨_, ?_, i + 1, r.erase a, hi', hr.erase a, by omega, hc, ?_, rfl⟩
      · omega
      · rw [wrap_succ (by omega)]
        rfl
    · have h2 : frI ms a r 0 = -1 := h2
      rw [cut_step_f h1] at hc
      rw [h2] at hfr
      rw [hc]
      (refine ⟨_, hfr, ?_⟩; conv => whnf)
      repeat' (first | ((first | refine opt_some (getC_rows rfl rfl (by omega)) ?_ | refine opt_some (by dsimp only; exact getC_lent rfl rfl (by omega)) ?_ | refine opt_some rfl ?_ | refine ⟨_, (by simp only [nf, nl, nm, en, ints, setC_setC, Nat.reduceAdd, Nat.reduceMul]; exact rfl), ?_⟩ | refine ⟨_, pickT rfl, ?_⟩ | refine ⟨_, rfl, ?_⟩ | refine iteP_true rfl ?_ | refine iteP_false rfl ?_ | refine iteP_true ‹_› ?_ | refine iteP_false ‹_› ?_ | refine andK ?_ | refine andA ?_ | refine andT ?_); conv => whnf) | (refine iteP_intro (fun hb => ?_) (fun hb => ?_) <;> (conv => whnf)))
      rfl
  · obtain rfl : i = u.length := by have := leF hb; omega
    rw [List.drop_length, cut] at hc
    rw [hc]
    repeat' (first | ((first | refine opt_some (getC_rows rfl rfl (by omega)) ?_ | refine opt_some (by dsimp only; exact getC_lent rfl rfl (by omega)) ?_ | refine opt_some rfl ?_ | refine ⟨_, (by simp only [nf, nl, nm, en, ints, setC_setC, Nat.reduceAdd, Nat.reduceMul]; exact rfl), ?_⟩ | refine ⟨_, pickT rfl, ?_⟩ | refine ⟨_, rfl, ?_⟩ | refine iteP_true rfl ?_ | refine iteP_false rfl ?_ | refine iteP_true ‹_› ?_ | refine iteP_false ‹_› ?_ | refine andK ?_ | refine andA ?_ | refine andT ?_); conv => whnf) | (refine iteP_intro (fun hb => ?_) (fun hb => ?_) <;> (conv => whnf)))
    rfl
/-- Is a word the smallest one of its trace? -/
def nrm (ms : List Nat) : List Nat → Bool
  | [] => true
  | c :: w => ((List.range c).all fun b => !canF ms b (c :: w)) && nrm ms w
/-- Can a not follow in a normal form that begins with a word? -/
def shB (ms : List Nat) (a : Nat) : List Nat → Bool
  | [] => false
  | c :: w => shB ms a w || (decide (a < c) && !((c :: w).any fun b => dep ms b a))
theorem leastF_iff {ms r : List Nat} {a : Nat} : leastF ms r = some a ↔ a < ms.length ∧ canF ms a r = true ∧ ∀ b < a, canF ms b r = false := by
  constructor
  · intro h
    obtain ⟨h1, h2⟩ := leastF_some h
    refine ⟨h1, h2, fun b hb => ?_⟩
    unfold leastF at h
    rw [List.find?_eq_some_iff_getElem] at h
    obtain ⟨-, i, hi, he, hj⟩ := h
    simp only [List.getElem_range] at he hj
    subst he
    have := hj b hb
    simpa using this
  · intro ⟨h1, h2, h3⟩
    exact leastF_first h1 h2 h3
theorem nrm_iff {ms : List Nat} : ∀ {w : List Nat}, Wd ms w → (nform ms w = w ↔ nrm ms w = true)
  | [], _ => by simp [nrm, nform_nil]
  | c :: w, hw => by
    have ih := nrm_iff hw.tail
    rw [nrm, Bool.and_eq_true, ← ih, List.all_eq_true]
    have hall : (∀ b ∈ List.range c, (!canF ms b (c :: w)) = true) ↔ leastF ms (c :: w) = some c := by
      rw [leastF_iff]
      constructor
      · intro h
        exact ⟨hw.head, canF_head .., fun b hb => by simpa using h b (by simpa using hb)⟩
      · intro h b hb
        rw [h.2.2 b (by simpa using hb)]
        rfl
    rw [hall]
    constructor
    · intro h
      obtain ⟨a, ha⟩ := leastF_cons hw
      rw [nform_step ha] at h
      obtain ⟨rfl, h2⟩ := List.cons.inj h
      rw [List.erase_cons_head] at h2
      exact ⟨ha, h2⟩
    · intro ⟨h1, h2⟩
      rw [nform_step h1, List.erase_cons_head, h2]
theorem nrm_snoc (ms : List Nat) (a : Nat) : ∀ w, nrm ms (w ++ [a]) = (nrm ms w && !shB ms a w)
  | [] => by
    show (((List.range a).all fun b => !canF ms b [a]) && true) = _
    rw [Bool.and_true, List.all_eq_true.2]
    · rfl
    · intro b hb
      have : b < a := by simpa using hb
      have e : (a == b) = false := by simp; omega
      simp [canF, e]
  | c :: w => by
    rw [List.cons_append, nrm, nrm_snoc ms a w, nrm, shB]
    have key : ((List.range c).all fun b => !canF ms b (c :: (w ++ [a]))) = (((List.range c).all fun b => !canF ms b (c :: w)) && !(decide (a < c) && !((c :: w).any fun b => dep ms b a))) := by
      rw [Bool.eq_iff_iff]
      simp only [List.all_eq_true, List.mem_range, Bool.and_eq_true]
      constructor
      · intro h
        refine ⟨fun b hb => ?_, ?_⟩
        · have := h b hb
          rw [← List.cons_append, canF_snoc] at this
          simp only [Bool.not_or, Bool.and_eq_true] at this
          exact this.1
        · by_cases hac : a < c
          · have := h a hac
            rw [← List.cons_append, canF_snoc] at this
            simp only [Bool.not_or, Bool.and_eq_true, beq_self_eq_true, Bool.true_and] at this
            rw [decide_eq_true hac, Bool.true_and]
            exact this.2
          · rw [decide_eq_false hac]
            rfl
      · intro ⟨h1, h2⟩ b hb
        rw [← List.cons_append, canF_snoc, Bool.not_or, h1 b hb, Bool.true_and]
        by_cases e : a = b
        · subst e
          rw [decide_eq_true hb, Bool.true_and] at h2
          simpa using h2
        · have : (a == b) = false := by simpa using e
          rw [this]
          rfl
    rw [key]
    cases ((List.range c).all fun b => !canF ms b (c :: w)) <;> cases nrm ms w <;> cases shB ms a w <;> cases (decide (a < c) && !((c :: w).any fun b => dep ms b a)) <;> rfl
theorem shB_snoc (ms : List Nat) (a s : Nat) : ∀ w, shB ms a (w ++ [s]) = ((shB ms a w || decide (a < s)) && !dep ms s a)
  | [] => by
    show (false || (decide (a < s) && !([s].any fun b => dep ms b a))) = _
    simp [shB]
  | c :: w => by
    rw [List.cons_append, shB, shB_snoc ms a s w, shB, ← List.cons_append, List.any_append]
    cases shB ms a w <;> cases decide (a < s) <;> cases decide (a < c) <;> cases ((c :: w).any fun b => dep ms b a) <;> cases h : dep ms s a <;> simp [h]
/-- The letters that can't follow in a normal form. -/
def shN (ms w : List Nat) : Nat := maskN (fun a => shB ms a w) ms.length
set_option maxHeartbeats 4000000 in
set_option maxRecDepth 100000 in
theorem shN_nil (ms : List Nat) : shN ms [] = 0 := by
  refine Nat.eq_of_testBit_eq fun i => ?_
  simp [shN, maskN_bit, shB]
theorem shN_lt (ms w : List Nat) : shN ms w < 2 ^ ms.length := maskN_lt _ _
theorem shN_bit {ms : List Nat} (w : List Nat) {a : Nat} (h : a < ms.length) : (shN ms w).testBit a = shB ms a w := by
  unfold shN
  rw [maskN_bit, decide_eq_true h, Bool.true_and]
theorem shN_snoc {ms : List Nat} (hl : ms.length ≤ 32) (w : List Nat) {s : Nat} (hs : s < ms.length) : andn (shN ms w ||| (2 ^ s - 1)) (ms.getD s 0) = shN ms (w ++ [s]) := by
  have hlt := mask_lt (shN_lt ms w) hs
  refine Nat.eq_of_testBit_eq fun i => ?_
  rw [andn_bit _ _ (Nat.lt_of_lt_of_le hlt (Nat.pow_le_pow_right (by decide) (by omega))), Nat.testBit_or, Nat.testBit_two_pow_sub_one]
  show (_ && !dep ms s i) = _
  unfold shN
  rw [maskN_bit, maskN_bit, shB_snoc]
  by_cases hi : i < ms.length
  · rw [decide_eq_true hi, Bool.true_and, Bool.true_and]
  · rw [decide_eq_false hi, decide_eq_false (show ¬ i < s by omega)]
    simp
/-- The normal forms with a beginning whose images go on with a trace. -/
def prG (ms ds : List Nat) (im : List (List Nat)) : Nat → List Nat → List Nat → List (List Nat) → List (List Nat)
  | 0, s, _, out => if 1000 < out.length then out else out ++ [s]
  | k + 1, s, v, out => if 1000 < out.length then out else if v.length = 0 then out ++ [s] else
    loopN (fun a o => if shB ms a s then o else match cut ds (im.getD a []) v with
      | none => o
      | some r => prG ms ds im k (s ++ [a]) r o) ms.length out
def prL (ms ds : List Nat) (im : List (List Nat)) (k : Nat) (s v : List Nat) (out : List (List Nat)) (i : Nat) : List (List Nat) :=
  loopN (fun a o => if shB ms a s then o else match cut ds (im.getD a []) v with
      | none => o
      | some r => prG ms ds im k (s ++ [a]) r o) i out
theorem prL_t {ms ds : List Nat} {im : List (List Nat)} {k : Nat} {s v : List Nat} {out : List (List Nat)} {i : Nat} (h : shB ms i s = true) : prL ms ds im k s v out (i + 1) = prL ms ds im k s v out i := by
  show (if shB ms i s then prL ms ds im k s v out i else _) = _
  rw [if_pos h]
theorem prL_n {ms ds : List Nat} {im : List (List Nat)} {k : Nat} {s v : List Nat} {out : List (List Nat)} {i : Nat} (h : shB ms i s = false) (hc : cut ds (im.getD i []) v = none) : prL ms ds im k s v out (i + 1) = prL ms ds im k s v out i := by
  show (if shB ms i s then prL ms ds im k s v out i else match cut ds (im.getD i []) v with
      | none => prL ms ds im k s v out i
      | some r => prG ms ds im k (s ++ [i]) r (prL ms ds im k s v out i)) = _
  rw [if_neg (by rw [h]; simp), hc]
theorem prL_s {ms ds : List Nat} {im : List (List Nat)} {k : Nat} {s v r : List Nat} {out : List (List Nat)} {i : Nat} (h : shB ms i s = false) (hc : cut ds (im.getD i []) v = some r) : prL ms ds im k s v out (i + 1) = prG ms ds im k (s ++ [i]) r (prL ms ds im k s v out i) := by
  show (if shB ms i s then prL ms ds im k s v out i else match cut ds (im.getD i []) v with
      | none => prL ms ds im k s v out i
      | some r => prG ms ds im k (s ++ [i]) r (prL ms ds im k s v out i)) = _
  rw [if_neg (by rw [h]; simp), hc]
theorem prG_full (ms ds : List Nat) (im : List (List Nat)) : ∀ k s v {out : List (List Nat)}, 1000 < out.length → prG ms ds im k s v out = out
  | 0, s, v, out, h => by rw [prG, if_pos h]
  | k + 1, s, v, out, h => by rw [prG, if_pos h]
theorem prL_full {ms ds : List Nat} {im : List (List Nat)} {k : Nat} {s v : List Nat} {out : List (List Nat)} {i : Nat} (h : 1000 < (prL ms ds im k s v out i).length) : prL ms ds im k s v out (i + 1) = prL ms ds im k s v out i := by
  cases h1 : shB ms i s with
  | true => exact prL_t h1
  | false =>
    cases h2 : cut ds (im.getD i []) v with
    | none => exact prL_n h1 h2
    | some r => rw [prL_s h1 h2, prG_full _ _ _ _ _ _ h]
theorem prG_end {ms ds : List Nat} {im : List (List Nat)} {s v : List Nat} {out : List (List Nat)} (h : out.length ≤ 1000) (hv : v.length = 0) : ∀ k, prG ms ds im k s v out = out ++ [s]
  | 0 => by rw [prG, if_neg (by omega)]
  | k + 1 => by rw [prG, if_neg (by omega), if_pos hv]
theorem prG_go {ms ds : List Nat} {im : List (List Nat)} {s v : List Nat} {out : List (List Nat)} {k : Nat} (h : out.length ≤ 1000) (hv : v.length ≠ 0) : prG ms ds im (k + 1) s v out = prL ms ds im k s v out ms.length := by
  rw [prG, if_neg (by omega), if_neg hv]
  rfl
theorem prG_len (ms ds : List Nat) (im : List (List Nat)) : ∀ k s v (out : List (List Nat)), out.length ≤ 1001 → (prG ms ds im k s v out).length ≤ 1001
  | 0, s, v, out, h => by
    rw [prG]
    split
    · exact h
    · simp; omega
  | k + 1, s, v, out, h => by
    rw [prG]
    split
    · exact h
    · split
      · simp; omega
      · refine loopN_inv (p := fun o : List (List Nat) => o.length ≤ 1001) (fun a o ho => ?_) _ h
        split
        · exact ho
        · split
          · exact ho
          · exact prG_len ms ds im k _ _ _ ho
theorem prL_len (ms ds : List Nat) (im : List (List Nat)) (k : Nat) (s v : List Nat) (out : List (List Nat)) (i : Nat) (h : out.length ≤ 1001) : (prL ms ds im k s v out i).length ≤ 1001 := by
  refine loopN_inv (p := fun o : List (List Nat) => o.length ≤ 1001) (fun a o ho => ?_) _ h
  split
  · exact ho
  · split
    · exact ho
    · exact prG_len ms ds im k _ _ _ ho
theorem prG_mem (ms ds : List Nat) (im : List (List Nat)) {c : Nat} : ∀ k s v (out : List (List Nat)), (∀ r ∈ out, r.length ≤ c) → s.length + k ≤ c → ∀ r ∈ prG ms ds im k s v out, r.length ≤ c
  | 0, s, v, out, h, hk => by
    rw [prG]
    split
    · exact h
    · intro r hr
      rcases List.mem_append.1 hr with h1 | h1
      · exact h r h1
      · simp at h1; subst h1; omega
  | k + 1, s, v, out, h, hk => by
    rw [prG]
    split
    · exact h
    · split
      · intro r hr
        rcases List.mem_append.1 hr with h1 | h1
        · exact h r h1
        · simp at h1; subst h1; omega
      · refine loopN_inv (p := fun o : List (List Nat) => ∀ r ∈ o, r.length ≤ c) (fun a o ho => ?_) _ h
        split
        · exact ho
        · split
          · exact ho
          · exact prG_mem ms ds im k _ _ _ ho (by simp; omega)
theorem im_getD_ne {im : List (List Nat)} (hn : ∀ v ∈ im, v.length ≠ 0) {a : Nat} (h : a < im.length) : (im.getD a []).length ≠ 0 := by
  rw [List.getD_eq_getElem?_getD, List.getElem?_eq_getElem h, Option.getD_some]
  exact hn _ (List.getElem_mem h)
theorem nrm_dec {ms s : List Nat} {a : Nat} (hs : Wd ms s) (ha : a < ms.length) (hn : nrm ms s = true) : decide (natI (nform ms (s ++ [a])) = natI (s ++ [a])) = !shB ms a s := by
  rw [natI_eq, Bool.eq_iff_iff, decide_eq_true_eq, nrm_iff (hs.append (.cons ha (.nil _))), nrm_snoc, hn, Bool.true_and]
set_option maxHeartbeats 4000000 in
set_option maxRecDepth 100000 in
theorem preS_ret (ms ds : List Nat) (im : List (List Nat)) (hA : Alpha ms) (hl : ms.length ≤ 8) (hB : Alpha ds) (hk8 : ds.length ≤ 8) (hi : im.length = ms.length) (hw : Wds ds im) (hn : ∀ v ∈ im, v.length ≠ 0) : ∀ (k : Nat) (s v : List Nat) (out : List (List Nat)), v.length ≤ k → s.length + k ≤ 24 → Wd ms s → nrm ms s = true → Wd ds v → out.length ≤ 1001 →
    Ret Tryd.prog G0 115 [⟨.ro, .agg [i64 ms.length, ints (natI ms)]⟩, ⟨.ro, .agg [i64 ds.length, ints (natI ds)]⟩, ⟨.ro, .one (rowsI (im.map natI))⟩, ⟨.mv, .one (ints (natI s))⟩, ⟨.ro, .one (ints (natI v))⟩, ⟨.mv, .one (rowsC out)⟩] ⟨.one (rowsC (prG ms ds im k s v out)), []⟩ := by
  intro k
  have hil : (im.map natI).length = im.length := List.length_map _
  induction k with
  | zero =>
    intro s v out hv hsk hs hns hvw ho
    have hsl := natI_length s
    have hvl := natI_length v
    unfold rowsC rowsI
    (refine ret_of_den (E := en 64 [] (fun _ => [(3, 0), (5, 0), (6, 0), (7, 0), (13, 0), (2, 1), (4, 1)]) (fun _ => [])) tt_ok mixed Tryd.func115 rfl rfl rfl rfl ?_; refine ⟨by simp, ?_⟩)
    repeat (first | ((first | refine opt_some (getC_rows rfl rfl (by omega)) ?_ | refine opt_some (by dsimp only; exact getC_lent rfl rfl (by omega)) ?_ | refine opt_some rfl ?_ | refine ⟨_, (by simp only [nf, nl, nm, en, ints, setC_setC, Nat.reduceAdd, Nat.reduceMul]; exact rfl), ?_⟩ | refine ⟨_, pickT rfl, ?_⟩ | refine ⟨_, rfl, ?_⟩ | refine iteP_true rfl ?_ | refine iteP_false rfl ?_ | refine iteP_true ‹_› ?_ | refine iteP_false ‹_› ?_ | refine andK ?_ | refine andA ?_ | refine andT ?_); conv => whnf))
    refine iteP_intro (fun hb => ?_) (fun hb => ?_) <;> (conv => whnf)
    · rw [prG_full _ _ _ _ _ _ (by have := leT hb; omega)]
      repeat' (first | ((first | refine opt_some (getC_rows rfl rfl (by omega)) ?_ | refine opt_some (by dsimp only; exact getC_lent rfl rfl (by omega)) ?_ | refine opt_some rfl ?_ | refine ⟨_, (by simp only [nf, nl, nm, en, ints, setC_setC, Nat.reduceAdd, Nat.reduceMul]; exact rfl), ?_⟩ | refine ⟨_, pickT rfl, ?_⟩ | refine ⟨_, rfl, ?_⟩ | refine iteP_true rfl ?_ | refine iteP_false rfl ?_ | refine iteP_true ‹_› ?_ | refine iteP_false ‹_› ?_ | refine andK ?_ | refine andA ?_ | refine andT ?_); conv => whnf) | (refine iteP_intro (fun hb => ?_) (fun hb => ?_) <;> (conv => whnf)))
      rfl
    have h0 : out.length ≤ 1000 := by have := leF hb; omega
    repeat (first | ((first | refine opt_some (getC_rows rfl rfl (by omega)) ?_ | refine opt_some (by dsimp only; exact getC_lent rfl rfl (by omega)) ?_ | refine opt_some rfl ?_ | refine ⟨_, (by simp only [nf, nl, nm, en, ints, setC_setC, Nat.reduceAdd, Nat.reduceMul]; exact rfl), ?_⟩ | refine ⟨_, pickT rfl, ?_⟩ | refine ⟨_, rfl, ?_⟩ | refine iteP_true rfl ?_ | refine iteP_false rfl ?_ | refine iteP_true ‹_› ?_ | refine iteP_false ‹_› ?_ | refine andK ?_ | refine andA ?_ | refine andT ?_); conv => whnf))
    refine iteP_intro (fun hb => ?_) (fun hb => ?_) <;> (conv => whnf)
    · repeat' (first | ((first | refine opt_some (getC_rows rfl rfl (by omega)) ?_ | refine opt_some (by dsimp only; exact getC_lent rfl rfl (by omega)) ?_ | refine opt_some rfl ?_ | refine ⟨_, (by simp only [nf, nl, nm, en, ints, setC_setC, Nat.reduceAdd, Nat.reduceMul]; exact rfl), ?_⟩ | refine ⟨_, pickT rfl, ?_⟩ | refine ⟨_, rfl, ?_⟩ | refine iteP_true rfl ?_ | refine iteP_false rfl ?_ | refine iteP_true ‹_› ?_ | refine iteP_false ‹_› ?_ | refine andK ?_ | refine andA ?_ | refine andT ?_); conv => whnf) | (refine iteP_intro (fun hb => ?_) (fun hb => ?_) <;> (conv => whnf)))
      rw [prG_end h0 (by omega), ← rowsC, rowsC_snoc]
      rfl
    · exact absurd (eqF hb) (by omega)
  | succ k ih =>
    intro s v out hv hsk hs hns hvw ho
    have hsl := natI_length s
    have hvl := natI_length v
    unfold rowsC rowsI
    (refine ret_of_den (E := en 64 [] (fun _ => [(3, 0), (5, 0), (6, 0), (7, 0), (13, 0), (2, 1), (4, 1)]) (fun _ => [])) tt_ok mixed Tryd.func115 rfl rfl rfl rfl ?_; refine ⟨by simp, ?_⟩)
    repeat (first | ((first | refine opt_some (getC_rows rfl rfl (by omega)) ?_ | refine opt_some (by dsimp only; exact getC_lent rfl rfl (by omega)) ?_ | refine opt_some rfl ?_ | refine ⟨_, (by simp only [nf, nl, nm, en, ints, setC_setC, Nat.reduceAdd, Nat.reduceMul]; exact rfl), ?_⟩ | refine ⟨_, pickT rfl, ?_⟩ | refine ⟨_, rfl, ?_⟩ | refine iteP_true rfl ?_ | refine iteP_false rfl ?_ | refine iteP_true ‹_› ?_ | refine iteP_false ‹_› ?_ | refine andK ?_ | refine andA ?_ | refine andT ?_); conv => whnf))
    refine iteP_intro (fun hb => ?_) (fun hb => ?_) <;> (conv => whnf)
    · rw [prG_full _ _ _ _ _ _ (by have := leT hb; omega)]
      repeat' (first | ((first | refine opt_some (getC_rows rfl rfl (by omega)) ?_ | refine opt_some (by dsimp only; exact getC_lent rfl rfl (by omega)) ?_ | refine opt_some rfl ?_ | refine ⟨_, (by simp only [nf, nl, nm, en, ints, setC_setC, Nat.reduceAdd, Nat.reduceMul]; exact rfl), ?_⟩ | refine ⟨_, pickT rfl, ?_⟩ | refine ⟨_, rfl, ?_⟩ | refine iteP_true rfl ?_ | refine iteP_false rfl ?_ | refine iteP_true ‹_› ?_ | refine iteP_false ‹_› ?_ | refine andK ?_ | refine andA ?_ | refine andT ?_); conv => whnf) | (refine iteP_intro (fun hb => ?_) (fun hb => ?_) <;> (conv => whnf)))
      rfl
    have h0 : out.length ≤ 1000 := by have := leF hb; omega
    repeat (first | ((first | refine opt_some (getC_rows rfl rfl (by omega)) ?_ | refine opt_some (by dsimp only; exact getC_lent rfl rfl (by omega)) ?_ | refine opt_some rfl ?_ | refine ⟨_, (by simp only [nf, nl, nm, en, ints, setC_setC, Nat.reduceAdd, Nat.reduceMul]; exact rfl), ?_⟩ | refine ⟨_, pickT rfl, ?_⟩ | refine ⟨_, rfl, ?_⟩ | refine iteP_true rfl ?_ | refine iteP_false rfl ?_ | refine iteP_true ‹_› ?_ | refine iteP_false ‹_› ?_ | refine andK ?_ | refine andA ?_ | refine andT ?_); conv => whnf))
    refine iteP_intro (fun hb => ?_) (fun hb => ?_) <;> (conv => whnf)
    · have hv0 : v.length = 0 := by have := eqT hb; omega
      repeat' (first | ((first | refine opt_some (getC_rows rfl rfl (by omega)) ?_ | refine opt_some (by dsimp only; exact getC_lent rfl rfl (by omega)) ?_ | refine opt_some rfl ?_ | refine ⟨_, (by simp only [nf, nl, nm, en, ints, setC_setC, Nat.reduceAdd, Nat.reduceMul]; exact rfl), ?_⟩ | refine ⟨_, pickT rfl, ?_⟩ | refine ⟨_, rfl, ?_⟩ | refine iteP_true rfl ?_ | refine iteP_false rfl ?_ | refine iteP_true ‹_› ?_ | refine iteP_false ‹_› ?_ | refine andK ?_ | refine andA ?_ | refine andT ?_); conv => whnf) | (refine iteP_intro (fun hb => ?_) (fun hb => ?_) <;> (conv => whnf)))
      rw [prG_end h0 hv0, ← rowsC, rowsC_snoc]
      rfl
    have hv0 : v.length ≠ 0 := by have := eqF hb; omega
    rw [prG_go h0 hv0]
    repeat (first | ((first | refine opt_some (getC_rows rfl rfl (by omega)) ?_ | refine opt_some (by dsimp only; exact getC_lent rfl rfl (by omega)) ?_ | refine opt_some rfl ?_ | refine ⟨_, (by simp only [nf, nl, nm, en, ints, setC_setC, Nat.reduceAdd, Nat.reduceMul]; exact rfl), ?_⟩ | refine ⟨_, pickT rfl, ?_⟩ | refine ⟨_, rfl, ?_⟩ | refine iteP_true rfl ?_ | refine iteP_false rfl ?_ | refine iteP_true ‹_› ?_ | refine iteP_false ‹_› ?_ | refine andK ?_ | refine andA ?_ | refine andT ?_); conv => whnf))
    refine ⟨fun q vs => ∃ a : Nat, a ≤ ms.length ∧ vs = [.one (ints (natI s)), .one (rowsC (prL ms ds im k s v out a)), .one (.ptr [i64 ms.length, .shd (ints (natI ms))]), .one (.ptr [i64 ds.length, .shd (ints (natI ds))]), .one (i64 a), .one (.shd (.sl false 1 (im.map natI).length ((im.map natI).map ints))), .one (.shd (ints (natI v)))] ∧ q = ms.length - a, rfl, ⟨_, 0, by omega, rfl, rfl⟩, ?_⟩
    rintro q vs ⟨a, ha, rfl, rfl⟩
    have hol := prL_len ms ds im k s v out a ho
    have ht := prL_t (ms := ms) (ds := ds) (im := im) (k := k) (s := s) (v := v) (out := out) (i := a)
    have hnn := prL_n (ms := ms) (ds := ds) (im := im) (k := k) (s := s) (v := v) (out := out) (i := a)
    have hss := fun r => prL_s (ms := ms) (ds := ds) (im := im) (k := k) (s := s) (v := v) (r := r) (out := out) (i := a)
    generalize hoe : prL ms ds im k s v out a = o at hol ht hnn hss
    unfold rowsC
    repeat (first | ((first | refine opt_some (getC_rows rfl rfl (by omega)) ?_ | refine opt_some (by dsimp only; exact getC_lent rfl rfl (by omega)) ?_ | refine opt_some rfl ?_ | refine ⟨_, (by simp only [nf, nl, nm, en, ints, setC_setC, Nat.reduceAdd, Nat.reduceMul]; exact rfl), ?_⟩ | refine ⟨_, pickT rfl, ?_⟩ | refine ⟨_, rfl, ?_⟩ | refine iteP_true rfl ?_ | refine iteP_false rfl ?_ | refine iteP_true ‹_› ?_ | refine iteP_false ‹_› ?_ | refine andK ?_ | refine andA ?_ | refine andT ?_); conv => whnf))
    refine iteP_intro (fun hb => ?_) (fun hb => ?_) <;> (conv => whnf)
    · have ha' : a < ms.length := by have := leT hb; omega
      have hwsa : Wd ms (s ++ [a]) := hs.append (.cons ha' (.nil _))
      have hsal := natI_length (s ++ [a])
      have hsal2 : (s ++ [a]).length = s.length + 1 := by simp
      have hN := l03Normal_ret ms (s ++ [a]) hA (by omega) hwsa (by omega)
      have hSm := l01Same_ret (natI (nform ms (s ++ [a]))) (natI (s ++ [a])) (by rw [natI_length, nform_length hA hwsa]; omega)
      rw [nrm_dec hs ha' hns] at hSm
      rw [ints_natI_snoc s a] at hN hSm
      have hga := rows_get (im := im) (a := a) (by omega) (by omega)
      obtain ⟨hg1, hg2⟩ := hw.get (a := a) (by omega)
      have hgn := im_getD_ne hn (a := a) (by omega)
      have hC := l05Cut_ret ds (im.getD a []) v hB (by omega) hg2 hvw (by omega) (by omega)
      repeat (first | ((first | refine opt_some (getC_rows rfl rfl (by omega)) ?_ | refine opt_some (by dsimp only; exact getC_lent rfl rfl (by omega)) ?_ | refine opt_some rfl ?_ | refine ⟨_, (by simp only [nf, nl, nm, en, ints, setC_setC, Nat.reduceAdd, Nat.reduceMul]; exact rfl), ?_⟩ | refine ⟨_, pickT rfl, ?_⟩ | refine ⟨_, rfl, ?_⟩ | refine iteP_true rfl ?_ | refine iteP_false rfl ?_ | refine iteP_true ‹_› ?_ | refine iteP_false ‹_› ?_ | refine andK ?_ | refine andA ?_ | refine andT ?_); conv => whnf))
      (refine ⟨_, l01Own_ret (natI s) (by omega), ?_⟩; conv => whnf)
      repeat (first | ((first | refine opt_some (getC_rows rfl rfl (by omega)) ?_ | refine opt_some (by dsimp only; exact getC_lent rfl rfl (by omega)) ?_ | refine opt_some rfl ?_ | refine ⟨_, (by simp only [nf, nl, nm, en, ints, setC_setC, Nat.reduceAdd, Nat.reduceMul]; exact rfl), ?_⟩ | refine ⟨_, pickT rfl, ?_⟩ | refine ⟨_, rfl, ?_⟩ | refine iteP_true rfl ?_ | refine iteP_false rfl ?_ | refine iteP_true ‹_› ?_ | refine iteP_false ‹_› ?_ | refine andK ?_ | refine andA ?_ | refine andT ?_); conv => whnf))
      (refine ⟨_, hN, ?_⟩; conv => whnf)
      repeat (first | ((first | refine opt_some (getC_rows rfl rfl (by omega)) ?_ | refine opt_some (by dsimp only; exact getC_lent rfl rfl (by omega)) ?_ | refine opt_some rfl ?_ | refine ⟨_, (by simp only [nf, nl, nm, en, ints, setC_setC, Nat.reduceAdd, Nat.reduceMul]; exact rfl), ?_⟩ | refine ⟨_, pickT rfl, ?_⟩ | refine ⟨_, rfl, ?_⟩ | refine iteP_true rfl ?_ | refine iteP_false rfl ?_ | refine iteP_true ‹_› ?_ | refine iteP_false ‹_› ?_ | refine andK ?_ | refine andA ?_ | refine andT ?_); conv => whnf))
      (refine ⟨_, hSm, ?_⟩; conv => whnf)
      cases hsh : shB ms a s with
      | true =>
        repeat (first | ((first | refine opt_some (getC_rows rfl rfl (by omega)) ?_ | refine opt_some (by dsimp only; exact getC_lent rfl rfl (by omega)) ?_ | refine opt_some rfl ?_ | refine ⟨_, (by simp only [nf, nl, nm, en, ints, setC_setC, Nat.reduceAdd, Nat.reduceMul]; exact rfl), ?_⟩ | refine ⟨_, pickT rfl, ?_⟩ | refine ⟨_, rfl, ?_⟩ | refine iteP_true rfl ?_ | refine iteP_false rfl ?_ | refine iteP_true ‹_› ?_ | refine iteP_false ‹_› ?_ | refine andK ?_ | refine andA ?_ | refine andT ?_); conv => whnf))
        refine ⟨_, ?_, a + 1, ha', ?_, rfl⟩
        · omega
        · rw [wrap_succ (by omega), ht hsh]
          rfl
      | false =>
        repeat (first | ((first | refine opt_some (getC_rows rfl rfl (by omega)) ?_ | refine opt_some (by dsimp only; exact getC_lent rfl rfl (by omega)) ?_ | refine opt_some rfl ?_ | refine ⟨_, (by simp only [nf, nl, nm, en, ints, setC_setC, Nat.reduceAdd, Nat.reduceMul, hga]; exact rfl), ?_⟩ | refine ⟨_, pickT rfl, ?_⟩ | refine ⟨_, rfl, ?_⟩ | refine iteP_true rfl ?_ | refine iteP_false rfl ?_ | refine iteP_true ‹_› ?_ | refine iteP_false ‹_› ?_ | refine andK ?_ | refine andA ?_ | refine andT ?_); conv => whnf))
        (refine ⟨_, hC, ?_⟩; conv => whnf)
        cases hcu : cut ds (im.getD a []) v with
        | none =>
          repeat (first | ((first | refine opt_some (getC_rows rfl rfl (by omega)) ?_ | refine opt_some (by dsimp only; exact getC_lent rfl rfl (by omega)) ?_ | refine opt_some rfl ?_ | refine ⟨_, (by simp only [nf, nl, nm, en, ints, setC_setC, Nat.reduceAdd, Nat.reduceMul]; exact rfl), ?_⟩ | refine ⟨_, pickT rfl, ?_⟩ | refine ⟨_, rfl, ?_⟩ | refine iteP_true rfl ?_ | refine iteP_false rfl ?_ | refine iteP_true ‹_› ?_ | refine iteP_false ‹_› ?_ | refine andK ?_ | refine andA ?_ | refine andT ?_); conv => whnf))
          refine ⟨_, ?_, a + 1, ha', ?_, rfl⟩
          · omega
          · rw [wrap_succ (by omega), hnn hsh hcu]
            rfl
        | some r =>
          have hcl := cut_length hcu
          have hrec := ih (s ++ [a]) r o (by omega) (by omega) hwsa (by rw [nrm_snoc, hns, hsh]; rfl) (cut_wd hvw hcu) hol
          rw [ints_natI_snoc s a] at hrec
          unfold rowsI rowsC at hrec
          repeat (first | ((first | refine opt_some (getC_rows rfl rfl (by omega)) ?_ | refine opt_some (by dsimp only; exact getC_lent rfl rfl (by omega)) ?_ | refine opt_some rfl ?_ | refine ⟨_, (by simp only [nf, nl, nm, en, ints, setC_setC, Nat.reduceAdd, Nat.reduceMul]; exact rfl), ?_⟩ | refine ⟨_, pickT rfl, ?_⟩ | refine ⟨_, rfl, ?_⟩ | refine iteP_true rfl ?_ | refine iteP_false rfl ?_ | refine iteP_true ‹_› ?_ | refine iteP_false ‹_› ?_ | refine andK ?_ | refine andA ?_ | refine andT ?_); conv => whnf))
          (refine ⟨_, hrec, ?_⟩; conv => whnf)
          repeat (first | ((first | refine opt_some (getC_rows rfl rfl (by omega)) ?_ | refine opt_some (by dsimp only; exact getC_lent rfl rfl (by omega)) ?_ | refine opt_some rfl ?_ | refine ⟨_, (by simp only [nf, nl, nm, en, ints, setC_setC, Nat.reduceAdd, Nat.reduceMul]; exact rfl), ?_⟩ | refine ⟨_, pickT rfl, ?_⟩ | refine ⟨_, rfl, ?_⟩ | refine iteP_true rfl ?_ | refine iteP_false rfl ?_ | refine iteP_true ‹_› ?_ | refine iteP_false ‹_› ?_ | refine andK ?_ | refine andA ?_ | refine andT ?_); conv => whnf))
          refine ⟨_, ?_, a + 1, ha', ?_, rfl⟩
          · omega
          · rw [wrap_succ (by omega), hss r hsh hcu]
            rfl
    · obtain rfl : a = ms.length := by have := leF hb; omega
      repeat' (first | ((first | refine opt_some (getC_rows rfl rfl (by omega)) ?_ | refine opt_some (by dsimp only; exact getC_lent rfl rfl (by omega)) ?_ | refine opt_some rfl ?_ | refine ⟨_, (by simp only [nf, nl, nm, en, ints, setC_setC, Nat.reduceAdd, Nat.reduceMul]; exact rfl), ?_⟩ | refine ⟨_, pickT rfl, ?_⟩ | refine ⟨_, rfl, ?_⟩ | refine iteP_true rfl ?_ | refine iteP_false rfl ?_ | refine iteP_true ‹_› ?_ | refine iteP_false ‹_› ?_ | refine andK ?_ | refine andA ?_ | refine andT ?_); conv => whnf) | (refine iteP_intro (fun hb => ?_) (fun hb => ?_) <;> (conv => whnf)))
      rw [← hoe]
      rfl
end Go.Proofs.YtpopepcmfanegaaDoor
