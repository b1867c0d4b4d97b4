import Derived.Test.YtihdeagknggeiaaDoorFzg
set_option autoImplicit false
set_option linter.unusedSimpArgs false
set_option linter.unusedVariables false
namespace Go.Proofs.YtihdeagknggeiaaDoor
open Go.Den
theorem inR_dec (k many : Int) : decide (0 ≤ k ∧ k ≤ many - 1) = decide (0 ≤ k ∧ k < many) := by
  rw [decide_eq_decide]
  omega
/-- What TraceAtRank answers. -/
def atR (n : Int) (ds : List Int) (c k : Int) : List Nat × Int :=
  if (chkN n ds c).2 = 0 then (if 0 ≤ k ∧ k < (chkN n ds c).1 then (atN (ds.map Int.toNat) c.toNat 0 k.toNat, 0) else ([], 2)) else ([], (chkN n ds c).2)
theorem atR_bad {n : Int} {ds : List Int} {c k : Int} (h : (chkN n ds c).2 ≠ 0) : atR n ds c k = ([], (chkN n ds c).2) := by
  unfold atR
  rw [if_neg h]
theorem atR_out {n : Int} {ds : List Int} {c k : Int} (h : (chkN n ds c).2 = 0) (hk : ¬ (0 ≤ k ∧ k < (chkN n ds c).1)) : atR n ds c k = ([], 2) := by
  unfold atR
  rw [if_pos h, if_neg hk]
theorem atR_in {n : Int} {ds : List Int} {c k : Int} (h : (chkN n ds c).2 = 0) (hk : 0 ≤ k ∧ k < (chkN n ds c).1) : atR n ds c k = (atN (ds.map Int.toNat) c.toNat 0 k.toNat, 0) := by
  unfold atR
  rw [if_pos h, if_pos hk]
theorem atR_nz {n : Int} {ds : List Int} {c k : Int} (h : (atR n ds c k).2 ≠ 0) : (atR n ds c k).1 = [] := by
  unfold atR at h ⊢
  split
  · rename_i h1
    rw [if_pos h1] at h
    split
    · rename_i h2
      rw [if_pos h2] at h
      exact absurd rfl h
    · rfl
  · rfl
theorem atR_le (n : Int) (ds : List Int) (c k : Int) : (atR n ds c k).2 ≠ 0 → OLe nilS (ints (natI (atR n ds c k).1)) := fun h => ints_nil_le (atR_nz h)
/-- Where a count is answered. -/
theorem chkN_zero {n : Int} {ds : List Int} {c : Int} (h : (chkN n ds c).2 = 0) : ∃ (ms : List Nat) (k : Nat), ds.map Int.toNat = ms ∧ n = ms.length ∧ ds = natI ms ∧ c = k ∧ k ≤ 24 ∧ ms.length ≤ 8 ∧ Alpha ms ∧ alphaOk ms.length (natI ms) = true ∧ tlN ms k 0 ≤ 1000000000000000 ∧ (chkN n ds c).1 = ((tlN ms k 0 : Nat) : Int) ∧ tlN ms k 0 = trc ms.length (dep ms) k := by
  cases h1 : alphaOk n ds with
  | false => rw [chkN_bad h1] at h; cases h
  | true =>
    by_cases hc : 0 ≤ c ∧ c ≤ 24
    rotate_left
    · rw [chkN_out h1 hc] at h; cases h
    · obtain ⟨ms, e1, rfl, rfl, hl, hA⟩ := alpha_ok h1
      obtain ⟨k, rfl⟩ : ∃ k : Nat, c = k := ⟨c.toNat, by omega⟩
      have hk : k ≤ 24 := by omega
      rw [chkN_in h1 hk e1] at h ⊢
      have htr := tlN_trc ms k
      by_cases hB : 1000000000000000 < trc ms.length (dep ms) k
      · rw [if_pos hB] at h; cases h
      · rw [if_neg hB]
        have hv : tlN ms k 0 = trc ms.length (dep ms) k := by omega
        exact ⟨ms, k, e1, rfl, rfl, rfl, hk, hl, hA, h1, by omega, by rw [hv], hv⟩
theorem atR_len (n : Int) (ds : List Int) (c k : Int) : (natI (atR n ds c k).1).length ≤ 24 := by
  rw [natI_length]
  unfold atR
  split
  · rename_i h
    split
    · obtain ⟨ms, q, e1, rfl, rfl, rfl, hk, -⟩ := chkN_zero h
      rw [atN_len]
      omega
    · simp
  · simp
set_option maxHeartbeats 16000000 in
set_option maxRecDepth 100000 in
theorem atS_ret (n : Int) (ds : List Int) (c k : Int) (hd : ds.length < 2 ^ 62) : Ret Tryd.prog G0 19 [⟨.ro, .agg [i64 n, ints ds]⟩, ⟨.ro, .one (i64 c)⟩, ⟨.ro, .one (i64 k)⟩] ⟨.tup [(false, [ints (natI (atR n ds c k).1)]), (false, [i64 (atR n ds c k).2])], []⟩ := by
  refine Ret.nz ?_ (atR_le n ds c k)
  have hC := countTr_ret n ds c hd
  by_cases h0 : (chkN n ds c).2 = 0
  rotate_left
  · rw [atR_bad h0]
    have hE : ∃ z, (chkN n ds c).2 = z := ⟨_, rfl⟩
    obtain ⟨z, hz⟩ := hE
    rw [hz] at hC h0 ⊢
    have h1 : (z == 0) = false := by simpa using h0
    have h2 : (z != 0) = true := by simpa using h0
    unfold nz
    rw [if_neg h0]
    (refine ret_of_den (E := en 32 [] (fun _ => []) (fun _ => [])) tt_ok mixed Tryd.func19 rfl rfl rfl rfl ?_; refine ⟨by simp, ?_⟩)
    repeat' (first | ((first | refine opt_some (getC_rows rfl rfl (by omega)) ?_ | refine opt_some (by dsimp only; exact getC_lent rfl rfl (by omega)) ?_ | refine opt_some rfl ?_ | refine ⟨_, (by simp only [nf, nl, nm, en, ints, setC_setC, Nat.reduceAdd, Nat.reduceMul]; exact rfl), ?_⟩ | refine ⟨_, pickT rfl, ?_⟩ | refine ⟨_, rfl, ?_⟩ | refine iteP_true rfl ?_ | refine iteP_false rfl ?_ | refine iteP_true ‹_› ?_ | refine iteP_false ‹_› ?_ | refine andK ?_ | refine andA ?_ | refine andT ?_); conv => whnf) | (refine iteP_intro (fun hb => ?_) (fun hb => ?_) <;> (conv => whnf)))
    (refine ⟨_, hC, ?_⟩; conv => whnf)
    repeat' (first | ((first | refine opt_some (getC_rows rfl rfl (by omega)) ?_ | refine opt_some (by dsimp only; exact getC_lent rfl rfl (by omega)) ?_ | refine opt_some rfl ?_ | refine ⟨_, (by simp only [nf, nl, nm, en, ints, setC_setC, Nat.reduceAdd, Nat.reduceMul, h1]; exact rfl), ?_⟩ | refine ⟨_, pickT rfl, ?_⟩ | refine ⟨_, rfl, ?_⟩ | refine iteP_true rfl ?_ | refine iteP_false rfl ?_ | refine iteP_true ‹_› ?_ | refine iteP_false ‹_› ?_ | refine andK ?_ | refine andA ?_ | refine andT ?_); conv => whnf) | (refine iteP_intro (fun hb => ?_) (fun hb => ?_) <;> (conv => whnf)))
    rfl
  have hz := chkN_zero h0
  obtain ⟨ms, q, e1, rfl, rfl, rfl, hq, hl, hA, hok, hb, hv, -⟩ := hz
  have hR := l01In_ret k 0 (((tlN ms q 0 : Nat) : Int) - 1)
  have hw : IntKind.i64.wrap (((tlN ms q 0 : Nat) : Int) - 1) = ((tlN ms q 0 : Nat) : Int) - 1 := wrap_i64 (by omega) (by omega)
  rw [h0, hv] at hC
  by_cases hk : 0 ≤ k ∧ k < (chkN ms.length (natI ms) q).1
  rotate_left
  · rw [atR_out h0 hk]
    rw [hv] at hk
    rw [decide_eq_false (show ¬ (0 ≤ k ∧ k ≤ ((tlN ms q 0 : Nat) : Int) - 1) by omega)] at hR
    (refine ret_of_den (E := en 32 [] (fun _ => []) (fun _ => [])) tt_ok mixed Tryd.func19 rfl rfl rfl rfl ?_; refine ⟨by simp, ?_⟩)
    repeat' (first | ((first | refine opt_some (getC_rows rfl rfl (by omega)) ?_ | refine opt_some (by dsimp only; exact getC_lent rfl rfl (by omega)) ?_ | refine opt_some rfl ?_ | refine ⟨_, (by simp only [nf, nl, nm, en, ints, setC_setC, Nat.reduceAdd, Nat.reduceMul]; exact rfl), ?_⟩ | refine ⟨_, pickT rfl, ?_⟩ | refine ⟨_, rfl, ?_⟩ | refine iteP_true rfl ?_ | refine iteP_false rfl ?_ | refine iteP_true ‹_› ?_ | refine iteP_false ‹_› ?_ | refine andK ?_ | refine andA ?_ | refine andT ?_); conv => whnf) | (refine iteP_intro (fun hb => ?_) (fun hb => ?_) <;> (conv => whnf)))
    (refine ⟨_, hC, ?_⟩; conv => whnf)
    repeat' (first | ((first | refine opt_some (getC_rows rfl rfl (by omega)) ?_ | refine opt_some (by dsimp only; exact getC_lent rfl rfl (by omega)) ?_ | refine opt_some rfl ?_ | refine ⟨_, (by simp only [nf, nl, nm, en, ints, setC_setC, Nat.reduceAdd, Nat.reduceMul, hw]; exact rfl), ?_⟩ | refine ⟨_, pickT rfl, ?_⟩ | refine ⟨_, rfl, ?_⟩ | refine iteP_true rfl ?_ | refine iteP_false rfl ?_ | refine iteP_true ‹_› ?_ | refine iteP_false ‹_› ?_ | refine andK ?_ | refine andA ?_ | refine andT ?_); conv => whnf) | (refine iteP_intro (fun hb => ?_) (fun hb => ?_) <;> (conv => whnf)))
    (refine ⟨_, hR, ?_⟩; conv => whnf)
    repeat' (first | ((first | refine opt_some (getC_rows rfl rfl (by omega)) ?_ | refine opt_some (by dsimp only; exact getC_lent rfl rfl (by omega)) ?_ | refine opt_some rfl ?_ | refine ⟨_, (by simp only [nf, nl, nm, en, ints, setC_setC, Nat.reduceAdd, Nat.reduceMul]; exact rfl), ?_⟩ | refine ⟨_, pickT rfl, ?_⟩ | refine ⟨_, rfl, ?_⟩ | refine iteP_true rfl ?_ | refine iteP_false rfl ?_ | refine iteP_true ‹_› ?_ | refine iteP_false ‹_› ?_ | refine andK ?_ | refine andA ?_ | refine andT ?_); conv => whnf) | (refine iteP_intro (fun hb => ?_) (fun hb => ?_) <;> (conv => whnf)))
    rfl
  · rw [atR_in h0 hk]
    rw [hv] at hk
    rw [decide_eq_true (show (0 ≤ k ∧ k ≤ ((tlN ms q 0 : Nat) : Int) - 1) by omega)] at hR
    obtain ⟨r, rfl⟩ : ∃ r : Nat, k = r := ⟨k.toNat, by omega⟩
    have hAt := l06At_ret ms hA hl q hq r (by omega) hb
    rw [e1, Int.toNat_natCast, Int.toNat_natCast]
    (refine ret_of_den (E := en 32 [] (fun _ => []) (fun _ => [])) tt_ok mixed Tryd.func19 rfl rfl rfl rfl ?_; refine ⟨by simp, ?_⟩)
    repeat' (first | ((first | refine opt_some (getC_rows rfl rfl (by omega)) ?_ | refine opt_some (by dsimp only; exact getC_lent rfl rfl (by omega)) ?_ | refine opt_some rfl ?_ | refine ⟨_, (by simp only [nf, nl, nm, en, ints, setC_setC, Nat.reduceAdd, Nat.reduceMul]; exact rfl), ?_⟩ | refine ⟨_, pickT rfl, ?_⟩ | refine ⟨_, rfl, ?_⟩ | refine iteP_true rfl ?_ | refine iteP_false rfl ?_ | refine iteP_true ‹_› ?_ | refine iteP_false ‹_› ?_ | refine andK ?_ | refine andA ?_ | refine andT ?_); conv => whnf) | (refine iteP_intro (fun hb => ?_) (fun hb => ?_) <;> (conv => whnf)))
    (refine ⟨_, hC, ?_⟩; conv => whnf)
    repeat' (first | ((first | refine opt_some (getC_rows rfl rfl (by omega)) ?_ | refine opt_some (by dsimp only; exact getC_lent rfl rfl (by omega)) ?_ | refine opt_some rfl ?_ | refine ⟨_, (by simp only [nf, nl, nm, en, ints, setC_setC, Nat.reduceAdd, Nat.reduceMul, hw]; exact rfl), ?_⟩ | refine ⟨_, pickT rfl, ?_⟩ | refine ⟨_, rfl, ?_⟩ | refine iteP_true rfl ?_ | refine iteP_false rfl ?_ | refine iteP_true ‹_› ?_ | refine iteP_false ‹_› ?_ | refine andK ?_ | refine andA ?_ | refine andT ?_); conv => whnf) | (refine iteP_intro (fun hb => ?_) (fun hb => ?_) <;> (conv => whnf)))
    (refine ⟨_, hR, ?_⟩; conv => whnf)
    repeat' (first | ((first | refine opt_some (getC_rows rfl rfl (by omega)) ?_ | refine opt_some (by dsimp only; exact getC_lent rfl rfl (by omega)) ?_ | refine opt_some rfl ?_ | refine ⟨_, (by simp only [nf, nl, nm, en, ints, setC_setC, Nat.reduceAdd, Nat.reduceMul]; exact rfl), ?_⟩ | refine ⟨_, pickT rfl, ?_⟩ | refine ⟨_, rfl, ?_⟩ | refine iteP_true rfl ?_ | refine iteP_false rfl ?_ | refine iteP_true ‹_› ?_ | refine iteP_false ‹_› ?_ | refine andK ?_ | refine andA ?_ | refine andT ?_); conv => whnf) | (refine iteP_intro (fun hb => ?_) (fun hb => ?_) <;> (conv => whnf)))
    (refine ⟨_, hAt, ?_⟩; conv => whnf)
    repeat' (first | ((first | refine opt_some (getC_rows rfl rfl (by omega)) ?_ | refine opt_some (by dsimp only; exact getC_lent rfl rfl (by omega)) ?_ | refine opt_some rfl ?_ | refine ⟨_, (by simp only [nf, nl, nm, en, ints, setC_setC, Nat.reduceAdd, Nat.reduceMul]; exact rfl), ?_⟩ | refine ⟨_, pickT rfl, ?_⟩ | refine ⟨_, rfl, ?_⟩ | refine iteP_true rfl ?_ | refine iteP_false rfl ?_ | refine iteP_true ‹_› ?_ | refine iteP_false ‹_› ?_ | refine andK ?_ | refine andA ?_ | refine andT ?_); conv => whnf) | (refine iteP_intro (fun hb => ?_) (fun hb => ?_) <;> (conv => whnf)))
    rfl
set_option maxHeartbeats 16000000 in
set_option maxRecDepth 100000 in
theorem atI_ret (n : Int) (ds : List Int) (c k : Int) (hd : ds.length < 2 ^ 62) : Ret Tryd.prog G0 20 [⟨.ro, .agg [i64 n, ints ds]⟩, ⟨.ro, .one (i64 c)⟩, ⟨.ro, .one (i64 k)⟩] ⟨.tup [(false, [ints (natI (atR n ds c k).1)]), (false, [i64 (atR n ds c k).2])], []⟩ := by
  refine Ret.nz ?_ (atR_le n ds c k)
  have hC := checkCount_ret n ds c hd
  by_cases h0 : (chkN n ds c).2 = 0
  rotate_left
  · rw [atR_bad h0]
    have hE : ∃ z, (chkN n ds c).2 = z := ⟨_, rfl⟩
    obtain ⟨z, hz⟩ := hE
    rw [hz] at hC h0 ⊢
    have h2 : (z != 0) = true := by simpa using h0
    unfold nz
    rw [if_neg h0]
    (refine ret_of_den (E := en 74 [] (fun | 8 => [(1, 0), (2, 0), (3, 0), (11, 0), (12, 0), (13, 0), (10, 1)] | 10 => [(1, 0), (2, 0), (3, 0), (11, 0), (12, 0), (13, 0), (40, 0), (41, 0), (10, 1)] | _ => []) (fun _ => [])) tt_ok mixed Tryd.func20 rfl rfl rfl rfl ?_; refine ⟨by simp, ?_⟩)
    repeat' (first | ((first | refine opt_some (getC_rows rfl rfl (by omega)) ?_ | refine opt_some (by dsimp only; exact getC_lent rfl rfl (by omega)) ?_ | refine opt_some rfl ?_ | refine ⟨_, (by simp only [nf, nl, nm, en, ints, setC_setC, Nat.reduceAdd, Nat.reduceMul]; exact rfl), ?_⟩ | refine ⟨_, pickT rfl, ?_⟩ | refine ⟨_, rfl, ?_⟩ | refine iteP_true rfl ?_ | refine iteP_false rfl ?_ | refine iteP_true ‹_› ?_ | refine iteP_false ‹_› ?_ | refine andK ?_ | refine andA ?_ | refine andT ?_); conv => whnf) | (refine iteP_intro (fun hb => ?_) (fun hb => ?_) <;> (conv => whnf)))
    (refine ⟨_, hC, ?_⟩; conv => whnf)
    repeat' (first | ((first | refine opt_some (getC_rows rfl rfl (by omega)) ?_ | refine opt_some (by dsimp only; exact getC_lent rfl rfl (by omega)) ?_ | refine opt_some rfl ?_ | refine ⟨_, (by simp only [nf, nl, nm, en, ints, setC_setC, Nat.reduceAdd, Nat.reduceMul]; exact rfl), ?_⟩ | refine ⟨_, pickT rfl, ?_⟩ | refine ⟨_, rfl, ?_⟩ | refine iteP_true rfl ?_ | refine iteP_false rfl ?_ | refine iteP_true ‹_› ?_ | refine iteP_false ‹_› ?_ | refine andK ?_ | refine andA ?_ | refine andT ?_); conv => whnf) | (refine iteP_intro (fun hb => ?_) (fun hb => ?_) <;> (conv => whnf)))
    rfl
  have hz := chkN_zero h0
  obtain ⟨ms, q, e1, rfl, rfl, rfl, hq, hl, hA, hok, hb, hv, -⟩ := hz
  have hR := inRange_ret k 0 (((tlN ms q 0 : Nat) : Int) - 1)
  have hw : IntKind.i64.wrap (((tlN ms q 0 : Nat) : Int) - 1) = ((tlN ms q 0 : Nat) : Int) - 1 := wrap_i64 (by omega) (by omega)
  rw [h0, hv] at hC
  by_cases hk : 0 ≤ k ∧ k < (chkN ms.length (natI ms) q).1
  rotate_left
  · rw [atR_out h0 hk]
    rw [hv] at hk
    rw [decide_eq_false (show ¬ (0 ≤ k ∧ k ≤ ((tlN ms q 0 : Nat) : Int) - 1) by omega)] at hR
    (refine ret_of_den (E := en 74 [] (fun | 8 => [(1, 0), (2, 0), (3, 0), (11, 0), (12, 0), (13, 0), (10, 1)] | 10 => [(1, 0), (2, 0), (3, 0), (11, 0), (12, 0), (13, 0), (40, 0), (41, 0), (10, 1)] | _ => []) (fun _ => [])) tt_ok mixed Tryd.func20 rfl rfl rfl rfl ?_; refine ⟨by simp, ?_⟩)
    repeat' (first | ((first | refine opt_some (getC_rows rfl rfl (by omega)) ?_ | refine opt_some (by dsimp only; exact getC_lent rfl rfl (by omega)) ?_ | refine opt_some rfl ?_ | refine ⟨_, (by simp only [nf, nl, nm, en, ints, setC_setC, Nat.reduceAdd, Nat.reduceMul]; exact rfl), ?_⟩ | refine ⟨_, pickT rfl, ?_⟩ | refine ⟨_, rfl, ?_⟩ | refine iteP_true rfl ?_ | refine iteP_false rfl ?_ | refine iteP_true ‹_› ?_ | refine iteP_false ‹_› ?_ | refine andK ?_ | refine andA ?_ | refine andT ?_); conv => whnf) | (refine iteP_intro (fun hb => ?_) (fun hb => ?_) <;> (conv => whnf)))
    (refine ⟨_, hC, ?_⟩; conv => whnf)
    repeat' (first | ((first | refine opt_some (getC_rows rfl rfl (by omega)) ?_ | refine opt_some (by dsimp only; exact getC_lent rfl rfl (by omega)) ?_ | refine opt_some rfl ?_ | refine ⟨_, (by simp only [nf, nl, nm, en, ints, setC_setC, Nat.reduceAdd, Nat.reduceMul, hw]; exact rfl), ?_⟩ | refine ⟨_, pickT rfl, ?_⟩ | refine ⟨_, rfl, ?_⟩ | refine iteP_true rfl ?_ | refine iteP_false rfl ?_ | refine iteP_true ‹_› ?_ | refine iteP_false ‹_› ?_ | refine andK ?_ | refine andA ?_ | refine andT ?_); conv => whnf) | (refine iteP_intro (fun hb => ?_) (fun hb => ?_) <;> (conv => whnf)))
    (refine ⟨_, hR, ?_⟩; conv => whnf)
    repeat' (first | ((first | refine opt_some (getC_rows rfl rfl (by omega)) ?_ | refine opt_some (by dsimp only; exact getC_lent rfl rfl (by omega)) ?_ | refine opt_some rfl ?_ | refine ⟨_, (by simp only [nf, nl, nm, en, ints, setC_setC, Nat.reduceAdd, Nat.reduceMul]; exact rfl), ?_⟩ | refine ⟨_, pickT rfl, ?_⟩ | refine ⟨_, rfl, ?_⟩ | refine iteP_true rfl ?_ | refine iteP_false rfl ?_ | refine iteP_true ‹_› ?_ | refine iteP_false ‹_› ?_ | refine andK ?_ | refine andA ?_ | refine andT ?_); conv => whnf) | (refine iteP_intro (fun hb => ?_) (fun hb => ?_) <;> (conv => whnf)))
    rfl
  rw [atR_in h0 hk]
  rw [hv] at hk
  rw [decide_eq_true (show (0 ≤ k ∧ k ≤ ((tlN ms q 0 : Nat) : Int) - 1) by omega)] at hR
  obtain ⟨r, rfl⟩ : ∃ r : Nat, k = r := ⟨k.toNat, by omega⟩
  rw [e1, Int.toNat_natCast, Int.toNat_natCast]
  have hti := ties_ret ms.length (natI ms)
  have hNF := newForms_ret ms
  have hp8 : 2 ^ ms.length ≤ 2 ^ 8 := Nat.pow_le_pow_right (by decide) hl
  have hR0 : ∃ R, atN ms q 0 r = R := ⟨_, rfl⟩
  obtain ⟨R, hRR⟩ := hR0
  have hkn0 : KnownF ms [] := fun e h => by cases h
  rw [hRR]
  (refine ret_of_den (E := en 74 [] (fun | 8 => [(1, 0), (2, 0), (3, 0), (11, 0), (12, 0), (13, 0), (10, 1)] | 10 => [(1, 0), (2, 0), (3, 0), (11, 0), (12, 0), (13, 0), (40, 0), (41, 0), (10, 1)] | _ => []) (fun _ => [])) tt_ok mixed Tryd.func20 rfl rfl rfl rfl ?_; refine ⟨by simp, ?_⟩)
  repeat' (first | ((first | refine opt_some (getC_rows rfl rfl (by omega)) ?_ | refine opt_some (by dsimp only; exact getC_lent rfl rfl (by omega)) ?_ | refine opt_some rfl ?_ | refine ⟨_, (by simp only [nf, nl, nm, en, ints, setC_setC, Nat.reduceAdd, Nat.reduceMul]; exact rfl), ?_⟩ | refine ⟨_, pickT rfl, ?_⟩ | refine ⟨_, rfl, ?_⟩ | refine iteP_true rfl ?_ | refine iteP_false rfl ?_ | refine iteP_true ‹_› ?_ | refine iteP_false ‹_› ?_ | refine andK ?_ | refine andA ?_ | refine andT ?_); conv => whnf) | (refine iteP_intro (fun hb => ?_) (fun hb => ?_) <;> (conv => whnf)))
  (refine ⟨_, hC, ?_⟩; conv => whnf)
  repeat' (first | ((first | refine opt_some (getC_rows rfl rfl (by omega)) ?_ | refine opt_some (by dsimp only; exact getC_lent rfl rfl (by omega)) ?_ | refine opt_some rfl ?_ | refine ⟨_, (by simp only [nf, nl, nm, en, ints, setC_setC, Nat.reduceAdd, Nat.reduceMul, hw]; exact rfl), ?_⟩ | refine ⟨_, pickT rfl, ?_⟩ | refine ⟨_, rfl, ?_⟩ | refine iteP_true rfl ?_ | refine iteP_false rfl ?_ | refine iteP_true ‹_› ?_ | refine iteP_false ‹_› ?_ | refine andK ?_ | refine andA ?_ | refine andT ?_); conv => whnf) | (refine iteP_intro (fun hb => ?_) (fun hb => ?_) <;> (conv => whnf)))
  (refine ⟨_, hR, ?_⟩; conv => whnf)
  repeat' (first | ((first | refine opt_some (getC_rows rfl rfl (by omega)) ?_ | refine opt_some (by dsimp only; exact getC_lent rfl rfl (by omega)) ?_ | refine opt_some rfl ?_ | refine ⟨_, (by simp only [nf, nl, nm, en, ints, setC_setC, Nat.reduceAdd, Nat.reduceMul]; exact rfl), ?_⟩ | refine ⟨_, pickT rfl, ?_⟩ | refine ⟨_, rfl, ?_⟩ | refine iteP_true rfl ?_ | refine iteP_false rfl ?_ | refine iteP_true ‹_› ?_ | refine iteP_false ‹_› ?_ | refine andK ?_ | refine andA ?_ | refine andT ?_); conv => whnf) | (refine iteP_intro (fun hb => ?_) (fun hb => ?_) <;> (conv => whnf)))
  (refine ⟨_, hti, ?_⟩; conv => whnf)
  repeat' (first | ((first | refine opt_some (getC_rows rfl rfl (by omega)) ?_ | refine opt_some (by dsimp only; exact getC_lent rfl rfl (by omega)) ?_ | refine opt_some rfl ?_ | refine ⟨_, (by simp only [nf, nl, nm, en, ints, setC_setC, Nat.reduceAdd, Nat.reduceMul]; exact rfl), ?_⟩ | refine ⟨_, pickT rfl, ?_⟩ | refine ⟨_, rfl, ?_⟩ | refine iteP_true rfl ?_ | refine iteP_false rfl ?_ | refine iteP_true ‹_› ?_ | refine iteP_false ‹_› ?_ | refine andK ?_ | refine andA ?_ | refine andT ?_); conv => whnf) | (refine iteP_intro (fun hb => ?_) (fun hb => ?_) <;> (conv => whnf)))
  (refine ⟨_, hNF, ?_⟩; conv => whnf)
  repeat' (first | ((first | refine opt_some (getC_rows rfl rfl (by omega)) ?_ | refine opt_some (by dsimp only; exact getC_lent rfl rfl (by omega)) ?_ | refine opt_some rfl ?_ | refine ⟨_, (by simp only [nf, nl, nm, en, ints, setC_setC, Nat.reduceAdd, Nat.reduceMul]; exact rfl), ?_⟩ | refine ⟨_, pickT rfl, ?_⟩ | refine ⟨_, rfl, ?_⟩ | refine iteP_true rfl ?_ | refine iteP_false rfl ?_ | refine iteP_true ‹_› ?_ | refine iteP_false ‹_› ?_ | refine andK ?_ | refine andA ?_ | refine andT ?_); conv => whnf) | (refine iteP_intro (fun hb => ?_) (fun hb => ?_) <;> (conv => whnf)))
  refine ⟨fun k vs => ∃ (m mask v : Nat) (out : List Nat) (es : Memo), m ≤ q ∧ mask < 2 ^ ms.length ∧ v < tlN ms m mask ∧ tlN ms m mask ≤ 1000000000000000 ∧ out.length + m = q ∧ out ++ atN ms m mask v = R ∧ KnownF ms es ∧ vs = [.one (i64 q), .one (i64 v), .one (.ptr [i64 ms.length, .shd (ints (natI ms))]), .one (.ptr [.shd (ints (natI ms)), memoC es]), .one (i64 mask), .one (ints (natI out)), .one (.shd (ints (natI ms)))] ∧ k = m, rfl, ⟨_, q, 0, r, [], [], Nat.le_refl _, Nat.two_pow_pos _, by omega, hb, by simp, by rw [List.nil_append]; exact hRR, hkn0, rfl, rfl⟩, ?_⟩
  rintro k vs ⟨m, mask, v0, out, es, hmn, hmk, hq1, hqb, hol, hoR, hkn, rfl, rfl⟩
  have hon := natI_length out
  have hLo := length_ret (natI out)
  rw [hon] at hLo
  unfold memoC
  repeat (first | ((first | refine opt_some (getC_rows rfl rfl (by omega)) ?_ | refine opt_some (by dsimp only; exact getC_lent rfl rfl (by omega)) ?_ | refine opt_some rfl ?_ | refine ⟨_, (by simp only [nf, nl, nm, en, ints, setC_setC, Nat.reduceAdd, Nat.reduceMul]; exact rfl), ?_⟩ | refine ⟨_, pickT rfl, ?_⟩ | refine ⟨_, rfl, ?_⟩ | refine iteP_true rfl ?_ | refine iteP_false rfl ?_ | refine iteP_true ‹_› ?_ | refine iteP_false ‹_› ?_ | refine andK ?_ | refine andA ?_ | refine andT ?_); conv => whnf))
  (refine ⟨_, hLo, ?_⟩; conv => whnf)
  repeat (first | ((first | refine opt_some (getC_rows rfl rfl (by omega)) ?_ | refine opt_some (by dsimp only; exact getC_lent rfl rfl (by omega)) ?_ | refine opt_some rfl ?_ | refine ⟨_, (by simp only [nf, nl, nm, en, ints, setC_setC, Nat.reduceAdd, Nat.reduceMul]; exact rfl), ?_⟩ | refine ⟨_, pickT rfl, ?_⟩ | refine ⟨_, rfl, ?_⟩ | refine iteP_true rfl ?_ | refine iteP_false rfl ?_ | refine iteP_true ‹_› ?_ | refine iteP_false ‹_› ?_ | refine andK ?_ | refine andA ?_ | refine andT ?_); conv => whnf))
  refine iteP_intro (fun hb => ?_) (fun hb => ?_) <;> (conv => whnf)
  · have hk0 : 0 < k := by have := leT hb; omega
    obtain ⟨m, rfl⟩ : ∃ m, k = m + 1 := ⟨k - 1, by omega⟩
    have hpo := pick_ok hl hmk hq1 hqb
    obtain ⟨hps, hpk⟩ := hpo
    rw [atN] at hoR
    have hp0 : ∃ p, pkT (trmN ms m mask) ms.length 0 v0 = p := ⟨_, rfl⟩
    obtain ⟨p, hp⟩ := hp0
    have hpk := hpk p hp
    rw [hp] at hoR
    obtain ⟨a1, a2, a3, a4, a5⟩ := hpk
    have hw1 : IntKind.i64.wrap ((q : Int) - (out.length : Int)) = ((m + 1 : Nat) : Int) := by rw [wrap_i64 (by omega) (by omega)]; omega
    have hw2 : IntKind.i64.wrap (((m + 1 : Nat) : Int) - 1) = (m : Int) := by rw [wrap_i64 (by omega) (by omega)]; omega
    repeat (first | ((first | refine opt_some (getC_rows rfl rfl (by omega)) ?_ | refine opt_some (by dsimp only; exact getC_lent rfl rfl (by omega)) ?_ | refine opt_some rfl ?_ | refine ⟨_, (by simp only [nf, nl, nm, en, ints, setC_setC, Nat.reduceAdd, Nat.reduceMul]; exact rfl), ?_⟩ | refine ⟨_, pickT rfl, ?_⟩ | refine ⟨_, rfl, ?_⟩ | refine iteP_true rfl ?_ | refine iteP_false rfl ?_ | refine iteP_true ‹_› ?_ | refine iteP_false ‹_› ?_ | refine andK ?_ | refine andA ?_ | refine andT ?_); conv => whnf))
    refine ⟨fun k vs => ∃ (c v : Nat) (es : Memo), c ≤ ms.length ∧ v + smN (trmN ms m mask) c < smN (trmN ms m mask) ms.length ∧ pkT (trmN ms m mask) (ms.length - c) c v = p ∧ v ≤ v0 ∧ KnownF ms es ∧ vs = [.one (i64 q), .one (i64 v), .one (.ptr [i64 ms.length, .shd (ints (natI ms))]), .one (.ptr [.shd (ints (natI ms)), memoC es]), .one (i64 mask), .one (ints (natI out)), .one (i64 ms.length), .one (i64 c), .one (.shd (ints (natI ms)))] ∧ k = ms.length - c, rfl, ⟨_, 0, v0, es, by omega, hps, by rw [Nat.sub_zero]; exact hp, Nat.le_refl _, hkn, rfl, rfl⟩, ?_⟩
    rintro k vs ⟨c, v, es, hc, hvs, hvp, hvq, hkn, rfl, rfl⟩
    unfold memoC
    repeat (first | ((first | refine opt_some (getC_rows rfl rfl (by omega)) ?_ | refine opt_some (by dsimp only; exact getC_lent rfl rfl (by omega)) ?_ | refine opt_some rfl ?_ | refine ⟨_, (by simp only [nf, nl, nm, en, ints, setC_setC, Nat.reduceAdd, Nat.reduceMul]; exact rfl), ?_⟩ | refine ⟨_, pickT rfl, ?_⟩ | refine ⟨_, rfl, ?_⟩ | refine iteP_true rfl ?_ | refine iteP_false rfl ?_ | refine iteP_true ‹_› ?_ | refine iteP_false ‹_› ?_ | refine andK ?_ | refine andA ?_ | refine andT ?_); conv => whnf))
    refine iteP_intro (fun hd => ?_) (fun hd => ?_) <;> (conv => whnf)
    · have hcl : c < ms.length := by have := leT hd; omega
      have hH := has_ret mask c (by omega) (by omega)
      have hss : smN (trmN ms m mask) (c + 1) = smN (trmN ms m mask) c + trmN ms m mask c := rfl
      obtain ⟨d, hd1⟩ : ∃ d, ms.length - c = d + 1 := ⟨ms.length - c - 1, by omega⟩
      have hd2 : ms.length - (c + 1) = d := by omega
      rw [hd1, pkT] at hvp
      by_cases hqb2 : mask.testBit c = true
      · have ht0 : trmN ms m mask c = 0 := by unfold trmN; rw [hqb2]; rfl
        rw [hqb2] at hH
        rw [ht0, if_neg (by omega), Nat.sub_zero] at hvp
        repeat (first | ((first | refine opt_some (getC_rows rfl rfl (by omega)) ?_ | refine opt_some (by dsimp only; exact getC_lent rfl rfl (by omega)) ?_ | refine opt_some rfl ?_ | refine ⟨_, (by simp only [nf, nl, nm, en, ints, setC_setC, Nat.reduceAdd, Nat.reduceMul]; exact rfl), ?_⟩ | refine ⟨_, pickT rfl, ?_⟩ | refine ⟨_, rfl, ?_⟩ | refine iteP_true rfl ?_ | refine iteP_false rfl ?_ | refine iteP_true ‹_› ?_ | refine iteP_false ‹_› ?_ | refine andK ?_ | refine andA ?_ | refine andT ?_); conv => whnf))
        (refine ⟨_, hH, ?_⟩; conv => whnf)
        repeat (first | ((first | refine opt_some (getC_rows rfl rfl (by omega)) ?_ | refine opt_some (by dsimp only; exact getC_lent rfl rfl (by omega)) ?_ | refine opt_some rfl ?_ | refine ⟨_, (by simp only [nf, nl, nm, en, ints, setC_setC, Nat.reduceAdd, Nat.reduceMul]; exact rfl), ?_⟩ | refine ⟨_, pickT rfl, ?_⟩ | refine ⟨_, rfl, ?_⟩ | refine iteP_true rfl ?_ | refine iteP_false rfl ?_ | refine iteP_true ‹_› ?_ | refine iteP_false ‹_› ?_ | refine andK ?_ | refine andA ?_ | refine andT ?_); conv => whnf))
        refine ⟨_, ?_, c + 1, v, es, hcl, by omega, by rw [hd2]; exact hvp, hvq, hkn, ?_, rfl⟩
        · omega
        · rw [wrap_succ (by omega)]
          rfl
      · have hqb2 : mask.testBit c = false := by simpa using hqb2
        have ht0 : trmN ms m mask c = tlN ms m (aftN ms mask c) := by unfold trmN; rw [hqb2]; rfl
        have hal := aftN_lt hl hmk hcl
        have hF := forbidden_ret ms mask c hcl (by omega) hA.lt hmk
        have hrec := fcount_ex ms hA hl m (by omega) (aftN ms mask c) es hal hkn
        obtain ⟨r2, ⟨es2, rfl, hk2⟩, hr2⟩ := hrec
        have htl := tlN_le ms m (aftN ms mask c)
        unfold memoC at hr2
        rw [hqb2] at hH
        by_cases hvf : v < trmN ms m mask c
        · rw [if_pos hvf] at hvp
          have hlt : decide ((v : Int) < ((tlN ms m (aftN ms mask c) : Nat) : Int)) = true := decide_eq_true (by omega)
          have hpc : p.1 = c := by rw [← hvp]
          have hpv : p.2 = v := by rw [← hvp]
          rw [hpc] at hoR a3 a4 a5
          rw [hpv] at hoR a3
          have hsn := ints_natI_snoc out c
          unfold aftN at hr2 hlt
          repeat (first | ((first | refine opt_some (getC_rows rfl rfl (by omega)) ?_ | refine opt_some (by dsimp only; exact getC_lent rfl rfl (by omega)) ?_ | refine opt_some rfl ?_ | refine ⟨_, (by simp only [nf, nl, nm, en, ints, setC_setC, Nat.reduceAdd, Nat.reduceMul]; exact rfl), ?_⟩ | refine ⟨_, pickT rfl, ?_⟩ | refine ⟨_, rfl, ?_⟩ | refine iteP_true rfl ?_ | refine iteP_false rfl ?_ | refine iteP_true ‹_› ?_ | refine iteP_false ‹_› ?_ | refine andK ?_ | refine andA ?_ | refine andT ?_); conv => whnf))
          (refine ⟨_, hH, ?_⟩; conv => whnf)
          repeat (first | ((first | refine opt_some (getC_rows rfl rfl (by omega)) ?_ | refine opt_some (by dsimp only; exact getC_lent rfl rfl (by omega)) ?_ | refine opt_some rfl ?_ | refine ⟨_, (by simp only [nf, nl, nm, en, ints, setC_setC, Nat.reduceAdd, Nat.reduceMul]; exact rfl), ?_⟩ | refine ⟨_, pickT rfl, ?_⟩ | refine ⟨_, rfl, ?_⟩ | refine iteP_true rfl ?_ | refine iteP_false rfl ?_ | refine iteP_true ‹_› ?_ | refine iteP_false ‹_› ?_ | refine andK ?_ | refine andA ?_ | refine andT ?_); conv => whnf))
          (refine ⟨_, hF, ?_⟩; conv => whnf)
          repeat (first | ((first | refine opt_some (getC_rows rfl rfl (by omega)) ?_ | refine opt_some (by dsimp only; exact getC_lent rfl rfl (by omega)) ?_ | refine opt_some rfl ?_ | refine ⟨_, (by simp only [nf, nl, nm, en, ints, setC_setC, Nat.reduceAdd, Nat.reduceMul]; exact rfl), ?_⟩ | refine ⟨_, pickT rfl, ?_⟩ | refine ⟨_, rfl, ?_⟩ | refine iteP_true rfl ?_ | refine iteP_false rfl ?_ | refine iteP_true ‹_› ?_ | refine iteP_false ‹_› ?_ | refine andK ?_ | refine andA ?_ | refine andT ?_); conv => whnf))
          (refine ⟨_, hLo, ?_⟩; conv => whnf)
          repeat (first | ((first | refine opt_some (getC_rows rfl rfl (by omega)) ?_ | refine opt_some (by dsimp only; exact getC_lent rfl rfl (by omega)) ?_ | refine opt_some rfl ?_ | refine ⟨_, (by simp only [nf, nl, nm, en, ints, setC_setC, Nat.reduceAdd, Nat.reduceMul, hw1, hw2]; exact rfl), ?_⟩ | refine ⟨_, pickT rfl, ?_⟩ | refine ⟨_, rfl, ?_⟩ | refine iteP_true rfl ?_ | refine iteP_false rfl ?_ | refine iteP_true ‹_› ?_ | refine iteP_false ‹_› ?_ | refine andK ?_ | refine andA ?_ | refine andT ?_); conv => whnf))
          (refine ⟨_, hr2, ?_⟩; conv => whnf)
          repeat (first | ((first | refine opt_some (getC_rows rfl rfl (by omega)) ?_ | refine opt_some (by dsimp only; exact getC_lent rfl rfl (by omega)) ?_ | refine opt_some rfl ?_ | refine ⟨_, (by simp only [nf, nl, nm, en, ints, setC_setC, Nat.reduceAdd, Nat.reduceMul, hlt]; exact rfl), ?_⟩ | refine ⟨_, pickT rfl, ?_⟩ | refine ⟨_, rfl, ?_⟩ | refine iteP_true rfl ?_ | refine iteP_false rfl ?_ | refine iteP_true ‹_› ?_ | refine iteP_false ‹_› ?_ | refine andK ?_ | refine andA ?_ | refine andT ?_); conv => whnf))
          (refine ⟨_, hF, ?_⟩; conv => whnf)
          repeat (first | ((first | refine opt_some (getC_rows rfl rfl (by omega)) ?_ | refine opt_some (by dsimp only; exact getC_lent rfl rfl (by omega)) ?_ | refine opt_some rfl ?_ | refine ⟨_, (by simp only [nf, nl, nm, en, ints, setC_setC, Nat.reduceAdd, Nat.reduceMul]; exact rfl), ?_⟩ | refine ⟨_, pickT rfl, ?_⟩ | refine ⟨_, rfl, ?_⟩ | refine iteP_true rfl ?_ | refine iteP_false rfl ?_ | refine iteP_true ‹_› ?_ | refine iteP_false ‹_› ?_ | refine andK ?_ | refine andA ?_ | refine andT ?_); conv => whnf))
          refine ⟨_, ?_, m, aftN ms mask c, v, out ++ [c], es2, by omega, a5, a3, a4, by rw [List.length_append, List.length_singleton]; omega, by rw [List.append_assoc]; exact hoR, hk2, ?_, rfl⟩
          · omega
          · rw [hsn]
            rfl
        · rw [if_neg hvf] at hvp
          have hlt : decide ((v : Int) < ((tlN ms m (aftN ms mask c) : Nat) : Int)) = false := decide_eq_false (by omega)
          have hws : IntKind.i64.wrap ((v : Int) - ((tlN ms m (aftN ms mask c) : Nat) : Int)) = ((v - trmN ms m mask c : Nat) : Int) := by rw [wrap_i64 (by omega) (by omega)]; omega
          unfold aftN at hr2 hlt hws
          repeat (first | ((first | refine opt_some (getC_rows rfl rfl (by omega)) ?_ | refine opt_some (by dsimp only; exact getC_lent rfl rfl (by omega)) ?_ | refine opt_some rfl ?_ | refine ⟨_, (by simp only [nf, nl, nm, en, ints, setC_setC, Nat.reduceAdd, Nat.reduceMul]; exact rfl), ?_⟩ | refine ⟨_, pickT rfl, ?_⟩ | refine ⟨_, rfl, ?_⟩ | refine iteP_true rfl ?_ | refine iteP_false rfl ?_ | refine iteP_true ‹_› ?_ | refine iteP_false ‹_› ?_ | refine andK ?_ | refine andA ?_ | refine andT ?_); conv => whnf))
          (refine ⟨_, hH, ?_⟩; conv => whnf)
          repeat (first | ((first | refine opt_some (getC_rows rfl rfl (by omega)) ?_ | refine opt_some (by dsimp only; exact getC_lent rfl rfl (by omega)) ?_ | refine opt_some rfl ?_ | refine ⟨_, (by simp only [nf, nl, nm, en, ints, setC_setC, Nat.reduceAdd, Nat.reduceMul]; exact rfl), ?_⟩ | refine ⟨_, pickT rfl, ?_⟩ | refine ⟨_, rfl, ?_⟩ | refine iteP_true rfl ?_ | refine iteP_false rfl ?_ | refine iteP_true ‹_› ?_ | refine iteP_false ‹_› ?_ | refine andK ?_ | refine andA ?_ | refine andT ?_); conv => whnf))
          (refine ⟨_, hF, ?_⟩; conv => whnf)
          repeat (first | ((first | refine opt_some (getC_rows rfl rfl (by omega)) ?_ | refine opt_some (by dsimp only; exact getC_lent rfl rfl (by omega)) ?_ | refine opt_some rfl ?_ | refine ⟨_, (by simp only [nf, nl, nm, en, ints, setC_setC, Nat.reduceAdd, Nat.reduceMul]; exact rfl), ?_⟩ | refine ⟨_, pickT rfl, ?_⟩ | refine ⟨_, rfl, ?_⟩ | refine iteP_true rfl ?_ | refine iteP_false rfl ?_ | refine iteP_true ‹_› ?_ | refine iteP_false ‹_› ?_ | refine andK ?_ | refine andA ?_ | refine andT ?_); conv => whnf))
          (refine ⟨_, hLo, ?_⟩; conv => whnf)
          repeat (first | ((first | refine opt_some (getC_rows rfl rfl (by omega)) ?_ | refine opt_some (by dsimp only; exact getC_lent rfl rfl (by omega)) ?_ | refine opt_some rfl ?_ | refine ⟨_, (by simp only [nf, nl, nm, en, ints, setC_setC, Nat.reduceAdd, Nat.reduceMul, hw1, hw2]; exact rfl), ?_⟩ | refine ⟨_, pickT rfl, ?_⟩ | refine ⟨_, rfl, ?_⟩ | refine iteP_true rfl ?_ | refine iteP_false rfl ?_ | refine iteP_true ‹_› ?_ | refine iteP_false ‹_› ?_ | refine andK ?_ | refine andA ?_ | refine andT ?_); conv => whnf))
          (refine ⟨_, hr2, ?_⟩; conv => whnf)
          repeat (first | ((first | refine opt_some (getC_rows rfl rfl (by omega)) ?_ | refine opt_some (by dsimp only; exact getC_lent rfl rfl (by omega)) ?_ | refine opt_some rfl ?_ | refine ⟨_, (by simp only [nf, nl, nm, en, ints, setC_setC, Nat.reduceAdd, Nat.reduceMul, hlt, hws]; exact rfl), ?_⟩ | refine ⟨_, pickT rfl, ?_⟩ | refine ⟨_, rfl, ?_⟩ | refine iteP_true rfl ?_ | refine iteP_false rfl ?_ | refine iteP_true ‹_› ?_ | refine iteP_false ‹_› ?_ | refine andK ?_ | refine andA ?_ | refine andT ?_); conv => whnf))
          refine ⟨_, ?_, c + 1, v - trmN ms m mask c, es2, hcl, by omega, by rw [hd2]; exact hvp, by omega, hk2, ?_, rfl⟩
          · omega
          · rw [wrap_succ (by omega)]
            rfl
    · have hce : c = ms.length := by have := leF hd; omega
      subst hce
      omega
  · have hk0 : k = 0 := by have := leF hb; omega
    subst hk0
    rw [atN, List.append_nil] at hoR
    subst hoR
    repeat' (first | ((first | refine opt_some (getC_rows rfl rfl (by omega)) ?_ | refine opt_some (by dsimp only; exact getC_lent rfl rfl (by omega)) ?_ | refine opt_some rfl ?_ | refine ⟨_, (by simp only [nf, nl, nm, en, ints, setC_setC, Nat.reduceAdd, Nat.reduceMul]; exact rfl), ?_⟩ | refine ⟨_, pickT rfl, ?_⟩ | refine ⟨_, rfl, ?_⟩ | refine iteP_true rfl ?_ | refine iteP_false rfl ?_ | refine iteP_true ‹_› ?_ | refine iteP_false ‹_› ?_ | refine andK ?_ | refine andA ?_ | refine andT ?_); conv => whnf) | (refine iteP_intro (fun hb => ?_) (fun hb => ?_) <;> (conv => whnf)))
    rfl
end Go.Proofs.YtihdeagknggeiaaDoor
