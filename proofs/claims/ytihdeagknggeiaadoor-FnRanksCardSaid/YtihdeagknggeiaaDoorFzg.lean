import Derived.Test.YtihdeagknggeiaaDoorFzf
set_option autoImplicit false
set_option linter.unusedSimpArgs false
set_option linter.unusedVariables false
namespace Go.Proofs.YtihdeagknggeiaaDoor
open Go.Den
set_option maxHeartbeats 16000000 in
set_option maxRecDepth 100000 in
theorem l06Many_ret (ms : List Nat) (hA : Alpha ms) (hl : ms.length ≤ 8) (n : Nat) (hn : n ≤ 24) : Ret Tryd.prog G0 69 [⟨.ro, .agg [i64 ms.length, ints (natI ms)]⟩, ⟨.ro, .one (i64 n)⟩] ⟨.one (i64 (if 1000000000000000 < trc ms.length (dep ms) n then 3 else 0)), []⟩ := by
  have hT := l06Tails_ret ms hA hl n hn
  have hml := tails_len ms (n + 1)
  have hgm := tails_get ms (n + 1) (i := n) (by omega)
  have hrl := tailR_len ms n
  have hp0 := Nat.two_pow_pos ms.length
  have hgl : ((tails ms (n + 1))[n]'(by omega)).length = 2 ^ ms.length := by rw [hgm, hrl]
  have hga := tailR_get ms n (i := 0) (by omega)
  have htr := tlN_trc ms n
  unfold rowsI at hT
  (refine ret_of_den (E := en 14 [] (fun _ => []) (fun _ => [])) tt_ok mixed Tryd.func69 rfl rfl rfl rfl ?_; refine ⟨by simp, ?_⟩)
  repeat' (first | ((first | refine opt_some (getC_rows rfl rfl (by omega)) ?_ | refine opt_some (by dsimp only; exact getC_lent rfl rfl (by omega)) ?_ | refine opt_some rfl ?_ | refine ⟨_, (by simp only [nf, nl, nm, en, ints, setC_setC, Nat.reduceAdd, Nat.reduceMul]; exact rfl), ?_⟩ | refine ⟨_, pickT rfl, ?_⟩ | refine ⟨_, rfl, ?_⟩ | refine iteP_true rfl ?_ | refine iteP_false rfl ?_ | refine iteP_true ‹_› ?_ | refine iteP_false ‹_› ?_ | refine andK ?_ | refine andA ?_ | refine andT ?_); conv => whnf) | (refine iteP_intro (fun hb => ?_) (fun hb => ?_) <;> (conv => whnf)))
  (refine ⟨_, hT, ?_⟩; conv => whnf)
  by_cases hB : 1000000000000000 < trc ms.length (dep ms) n
  · rw [if_pos hB]
    have hgt : decide (((tlN ms n 0 : Nat) : Int) > 1000000000000000) = true := decide_eq_true (by omega)
    repeat' (first | ((first | refine opt_some (getC_rows rfl rfl (by omega)) ?_ | refine opt_some (by dsimp only; exact getC_lent rfl rfl (by omega)) ?_ | refine opt_some rfl ?_ | refine ⟨_, (by simp only [nf, nl, nm, en, ints, setC_setC, Nat.reduceAdd, Nat.reduceMul, hgm, hga, hgt]; exact rfl), ?_⟩ | refine ⟨_, pickT rfl, ?_⟩ | refine ⟨_, rfl, ?_⟩ | refine iteP_true rfl ?_ | refine iteP_false rfl ?_ | refine iteP_true ‹_› ?_ | refine iteP_false ‹_› ?_ | refine andK ?_ | refine andA ?_ | refine andT ?_); conv => whnf) | (refine iteP_intro (fun hb => ?_) (fun hb => ?_) <;> (conv => whnf)))
    rfl
  · rw [if_neg hB]
    have hgt : decide (((tlN ms n 0 : Nat) : Int) > 1000000000000000) = false := decide_eq_false (by omega)
    repeat' (first | ((first | refine opt_some (getC_rows rfl rfl (by omega)) ?_ | refine opt_some (by dsimp only; exact getC_lent rfl rfl (by omega)) ?_ | refine opt_some rfl ?_ | refine ⟨_, (by simp only [nf, nl, nm, en, ints, setC_setC, Nat.reduceAdd, Nat.reduceMul, hgm, hga, hgt]; exact rfl), ?_⟩ | refine ⟨_, pickT rfl, ?_⟩ | refine ⟨_, rfl, ?_⟩ | refine iteP_true rfl ?_ | refine iteP_false rfl ?_ | refine iteP_true ‹_› ?_ | refine iteP_false ‹_› ?_ | refine andK ?_ | refine andA ?_ | refine andT ?_); conv => whnf) | (refine iteP_intro (fun hb => ?_) (fun hb => ?_) <;> (conv => whnf)))
    rfl
set_option maxHeartbeats 16000000 in
set_option maxRecDepth 100000 in
theorem countTr_ret (n : Int) (ds : List Int) (c : Int) (hd : ds.length < 2 ^ 62) : Ret Tryd.prog G0 59 [⟨.ro, .agg [i64 n, ints ds]⟩, ⟨.ro, .one (i64 c)⟩] ⟨.tup [(false, [i64 (chkN n ds c).1]), (false, [i64 (chkN n ds c).2])], []⟩ := by
  have hC := l06Code_ret n c ds hd
  cases h1 : alphaOk n ds with
  | false =>
    rw [chkN_bad h1]
    rw [h1, if_neg (by simp)] at hC
    (refine ret_of_den (E := en 26 [] (fun _ => []) (fun _ => [])) tt_ok mixed Tryd.func59 rfl rfl rfl rfl ?_; refine ⟨by simp, ?_⟩)
    repeat' (first | ((first | refine opt_some (getC_rows rfl rfl (by omega)) ?_ | refine opt_some (by dsimp only; exact getC_lent rfl rfl (by omega)) ?_ | refine opt_some rfl ?_ | refine ⟨_, (by simp only [nf, nl, nm, en, ints, setC_setC, Nat.reduceAdd, Nat.reduceMul]; exact rfl), ?_⟩ | refine ⟨_, pickT rfl, ?_⟩ | refine ⟨_, rfl, ?_⟩ | refine iteP_true rfl ?_ | refine iteP_false rfl ?_ | refine iteP_true ‹_› ?_ | refine iteP_false ‹_› ?_ | refine andK ?_ | refine andA ?_ | refine andT ?_); conv => whnf) | (refine iteP_intro (fun hb => ?_) (fun hb => ?_) <;> (conv => whnf)))
    (refine ⟨_, hC, ?_⟩; conv => whnf)
    repeat' (first | ((first | refine opt_some (getC_rows rfl rfl (by omega)) ?_ | refine opt_some (by dsimp only; exact getC_lent rfl rfl (by omega)) ?_ | refine opt_some rfl ?_ | refine ⟨_, (by simp only [nf, nl, nm, en, ints, setC_setC, Nat.reduceAdd, Nat.reduceMul]; exact rfl), ?_⟩ | refine ⟨_, pickT rfl, ?_⟩ | refine ⟨_, rfl, ?_⟩ | refine iteP_true rfl ?_ | refine iteP_false rfl ?_ | refine iteP_true ‹_› ?_ | refine iteP_false ‹_› ?_ | refine andK ?_ | refine andA ?_ | refine andT ?_); conv => whnf) | (refine iteP_intro (fun hb => ?_) (fun hb => ?_) <;> (conv => whnf)))
    rfl
  | true =>
    rw [h1, if_pos rfl] at hC
    by_cases hc : 0 ≤ c ∧ c ≤ 24
    rotate_left
    · rw [chkN_out h1 hc]
      rw [if_neg hc] at hC
      (refine ret_of_den (E := en 26 [] (fun _ => []) (fun _ => [])) tt_ok mixed Tryd.func59 rfl rfl rfl rfl ?_; refine ⟨by simp, ?_⟩)
      repeat' (first | ((first | refine opt_some (getC_rows rfl rfl (by omega)) ?_ | refine opt_some (by dsimp only; exact getC_lent rfl rfl (by omega)) ?_ | refine opt_some rfl ?_ | refine ⟨_, (by simp only [nf, nl, nm, en, ints, setC_setC, Nat.reduceAdd, Nat.reduceMul]; exact rfl), ?_⟩ | refine ⟨_, pickT rfl, ?_⟩ | refine ⟨_, rfl, ?_⟩ | refine iteP_true rfl ?_ | refine iteP_false rfl ?_ | refine iteP_true ‹_› ?_ | refine iteP_false ‹_› ?_ | refine andK ?_ | refine andA ?_ | refine andT ?_); conv => whnf) | (refine iteP_intro (fun hb => ?_) (fun hb => ?_) <;> (conv => whnf)))
      (refine ⟨_, hC, ?_⟩; conv => whnf)
      repeat' (first | ((first | refine opt_some (getC_rows rfl rfl (by omega)) ?_ | refine opt_some (by dsimp only; exact getC_lent rfl rfl (by omega)) ?_ | refine opt_some rfl ?_ | refine ⟨_, (by simp only [nf, nl, nm, en, ints, setC_setC, Nat.reduceAdd, Nat.reduceMul]; exact rfl), ?_⟩ | refine ⟨_, pickT rfl, ?_⟩ | refine ⟨_, rfl, ?_⟩ | refine iteP_true rfl ?_ | refine iteP_false rfl ?_ | refine iteP_true ‹_› ?_ | refine iteP_false ‹_› ?_ | refine andK ?_ | refine andA ?_ | refine andT ?_); conv => whnf) | (refine iteP_intro (fun hb => ?_) (fun hb => ?_) <;> (conv => whnf)))
      rfl
    · rw [if_pos hc] at hC
      obtain ⟨ms, e1, rfl, rfl, hl, hA⟩ := alpha_ok h1
      obtain ⟨k, rfl⟩ : ∃ k : Nat, c = k := ⟨c.toNat, by omega⟩
      have hk : k ≤ 24 := by omega
      rw [chkN_in h1 hk e1]
      have hM := l06Many_ret ms hA hl k hk
      have hT := l06Tails_ret ms hA hl k hk
      have hml := tails_len ms (k + 1)
      have hgm := tails_get ms (k + 1) (i := k) (by omega)
      have hrl := tailR_len ms k
      have hp0 := Nat.two_pow_pos ms.length
      have hgl : ((tails ms (k + 1))[k]'(by omega)).length = 2 ^ ms.length := by rw [hgm, hrl]
      have hga := tailR_get ms k (i := 0) (by omega)
      have htr := tlN_trc ms k
      unfold rowsI at hT
      by_cases hB : 1000000000000000 < trc ms.length (dep ms) k
      · rw [if_pos hB] at hM ⊢
        (refine ret_of_den (E := en 26 [] (fun _ => []) (fun _ => [])) tt_ok mixed Tryd.func59 rfl rfl rfl rfl ?_; refine ⟨by simp, ?_⟩)
        repeat' (first | ((first | refine opt_some (getC_rows rfl rfl (by omega)) ?_ | refine opt_some (by dsimp only; exact getC_lent rfl rfl (by omega)) ?_ | refine opt_some rfl ?_ | refine ⟨_, (by simp only [nf, nl, nm, en, ints, setC_setC, Nat.reduceAdd, Nat.reduceMul]; exact rfl), ?_⟩ | refine ⟨_, pickT rfl, ?_⟩ | refine ⟨_, rfl, ?_⟩ | refine iteP_true rfl ?_ | refine iteP_false rfl ?_ | refine iteP_true ‹_› ?_ | refine iteP_false ‹_› ?_ | refine andK ?_ | refine andA ?_ | refine andT ?_); conv => whnf) | (refine iteP_intro (fun hb => ?_) (fun hb => ?_) <;> (conv => whnf)))
        (refine ⟨_, hC, ?_⟩; conv => whnf)
        repeat' (first | ((first | refine opt_some (getC_rows rfl rfl (by omega)) ?_ | refine opt_some (by dsimp only; exact getC_lent rfl rfl (by omega)) ?_ | refine opt_some rfl ?_ | refine ⟨_, (by simp only [nf, nl, nm, en, ints, setC_setC, Nat.reduceAdd, Nat.reduceMul]; exact rfl), ?_⟩ | refine ⟨_, pickT rfl, ?_⟩ | refine ⟨_, rfl, ?_⟩ | refine iteP_true rfl ?_ | refine iteP_false rfl ?_ | refine iteP_true ‹_› ?_ | refine iteP_false ‹_› ?_ | refine andK ?_ | refine andA ?_ | refine andT ?_); conv => whnf) | (refine iteP_intro (fun hb => ?_) (fun hb => ?_) <;> (conv => whnf)))
        (refine ⟨_, hM, ?_⟩; conv => whnf)
        repeat' (first | ((first | refine opt_some (getC_rows rfl rfl (by omega)) ?_ | refine opt_some (by dsimp only; exact getC_lent rfl rfl (by omega)) ?_ | refine opt_some rfl ?_ | refine ⟨_, (by simp only [nf, nl, nm, en, ints, setC_setC, Nat.reduceAdd, Nat.reduceMul]; exact rfl), ?_⟩ | refine ⟨_, pickT rfl, ?_⟩ | refine ⟨_, rfl, ?_⟩ | refine iteP_true rfl ?_ | refine iteP_false rfl ?_ | refine iteP_true ‹_› ?_ | refine iteP_false ‹_› ?_ | refine andK ?_ | refine andA ?_ | refine andT ?_); conv => whnf) | (refine iteP_intro (fun hb => ?_) (fun hb => ?_) <;> (conv => whnf)))
        rfl
      · rw [if_neg hB] at hM ⊢
        have hv : tlN ms k 0 = trc ms.length (dep ms) k := by omega
        rw [hv] at hga
        (refine ret_of_den (E := en 26 [] (fun _ => []) (fun _ => [])) tt_ok mixed Tryd.func59 rfl rfl rfl rfl ?_; refine ⟨by simp, ?_⟩)
        repeat' (first | ((first | refine opt_some (getC_rows rfl rfl (by omega)) ?_ | refine opt_some (by dsimp only; exact getC_lent rfl rfl (by omega)) ?_ | refine opt_some rfl ?_ | refine ⟨_, (by simp only [nf, nl, nm, en, ints, setC_setC, Nat.reduceAdd, Nat.reduceMul]; exact rfl), ?_⟩ | refine ⟨_, pickT rfl, ?_⟩ | refine ⟨_, rfl, ?_⟩ | refine iteP_true rfl ?_ | refine iteP_false rfl ?_ | refine iteP_true ‹_› ?_ | refine iteP_false ‹_› ?_ | refine andK ?_ | refine andA ?_ | refine andT ?_); conv => whnf) | (refine iteP_intro (fun hb => ?_) (fun hb => ?_) <;> (conv => whnf)))
        (refine ⟨_, hC, ?_⟩; conv => whnf)
        repeat' (first | ((first | refine opt_some (getC_rows rfl rfl (by omega)) ?_ | refine opt_some (by dsimp only; exact getC_lent rfl rfl (by omega)) ?_ | refine opt_some rfl ?_ | refine ⟨_, (by simp only [nf, nl, nm, en, ints, setC_setC, Nat.reduceAdd, Nat.reduceMul]; exact rfl), ?_⟩ | refine ⟨_, pickT rfl, ?_⟩ | refine ⟨_, rfl, ?_⟩ | refine iteP_true rfl ?_ | refine iteP_false rfl ?_ | refine iteP_true ‹_› ?_ | refine iteP_false ‹_› ?_ | refine andK ?_ | refine andA ?_ | refine andT ?_); conv => whnf) | (refine iteP_intro (fun hb => ?_) (fun hb => ?_) <;> (conv => whnf)))
        (refine ⟨_, hM, ?_⟩; conv => whnf)
        repeat' (first | ((first | refine opt_some (getC_rows rfl rfl (by omega)) ?_ | refine opt_some (by dsimp only; exact getC_lent rfl rfl (by omega)) ?_ | refine opt_some rfl ?_ | refine ⟨_, (by simp only [nf, nl, nm, en, ints, setC_setC, Nat.reduceAdd, Nat.reduceMul]; exact rfl), ?_⟩ | refine ⟨_, pickT rfl, ?_⟩ | refine ⟨_, rfl, ?_⟩ | refine iteP_true rfl ?_ | refine iteP_false rfl ?_ | refine iteP_true ‹_› ?_ | refine iteP_false ‹_› ?_ | refine andK ?_ | refine andA ?_ | refine andT ?_); conv => whnf) | (refine iteP_intro (fun hb => ?_) (fun hb => ?_) <;> (conv => whnf)))
        (refine ⟨_, hT, ?_⟩; conv => whnf)
        repeat' (first | ((first | refine opt_some (getC_rows rfl rfl (by omega)) ?_ | refine opt_some (by dsimp only; exact getC_lent rfl rfl (by omega)) ?_ | refine opt_some rfl ?_ | refine ⟨_, (by simp only [nf, nl, nm, en, ints, setC_setC, Nat.reduceAdd, Nat.reduceMul, hgm, hga]; exact rfl), ?_⟩ | refine ⟨_, pickT rfl, ?_⟩ | refine ⟨_, rfl, ?_⟩ | refine iteP_true rfl ?_ | refine iteP_false rfl ?_ | refine iteP_true ‹_› ?_ | refine iteP_false ‹_› ?_ | refine andK ?_ | refine andA ?_ | refine andT ?_); conv => whnf) | (refine iteP_intro (fun hb => ?_) (fun hb => ?_) <;> (conv => whnf)))
        rfl
/-! The trace with a rank. -/
def pkT (f : Nat → Nat) : Nat → Nat → Nat → Nat × Nat
  | 0, c, r => (c, r)
  | d + 1, c, r => if r < f c then (c, r) else pkT f d (c + 1) (r - f c)
theorem pkT_spec {f : Nat → Nat} : ∀ {d c r : Nat}, r + smN f c < smN f (c + d) → c ≤ (pkT f d c r).1 ∧ (pkT f d c r).1 < c + d ∧ (pkT f d c r).2 < f (pkT f d c r).1
  | 0, c, r, h => by
    rw [Nat.add_zero] at h
    omega
  | d + 1, c, r, h => by
    rw [pkT]
    split
    · rename_i hr
      exact ⟨Nat.le_refl _, by omega, hr⟩
    · rename_i hr
      have hs : smN f (c + 1) = smN f c + f c := rfl
      have := pkT_spec (f := f) (d := d) (c := c + 1) (r := r - f c) (by rw [show c + 1 + d = c + (d + 1) by omega]; omega)
      exact ⟨by omega, by omega, this.2.2⟩
def atN (ms : List Nat) : Nat → Nat → Nat → List Nat
  | 0, _, _ => []
  | m + 1, mask, r => (pkT (trmN ms m mask) ms.length 0 r).1 :: atN ms m (aftN ms mask (pkT (trmN ms m mask) ms.length 0 r).1) (pkT (trmN ms m mask) ms.length 0 r).2
theorem atN_len (ms : List Nat) : ∀ m mask r, (atN ms m mask r).length = m
  | 0, _, _ => rfl
  | m + 1, mask, r => by rw [atN, List.length_cons, atN_len ms m]
/-- What holds of the letter that is picked. -/
theorem pick_ok {ms : List Nat} (hl : ms.length ≤ 8) {m mask r : Nat} (hm : mask < 2 ^ ms.length) (hr : r < tlN ms (m + 1) mask) (hb : tlN ms (m + 1) mask ≤ 1000000000000000) : r + smN (trmN ms m mask) 0 < smN (trmN ms m mask) ms.length ∧ ∀ p, pkT (trmN ms m mask) ms.length 0 r = p → p.1 < ms.length ∧ mask.testBit p.1 = false ∧ p.2 < tlN ms m (aftN ms mask p.1) ∧ tlN ms m (aftN ms mask p.1) ≤ 1000000000000000 ∧ aftN ms mask p.1 < 2 ^ ms.length := by
  have hs := tlN_succ hl (m := m) hm
  have h1 : tlN ms (m + 1) mask = smN (trmN ms m mask) ms.length := by omega
  have h2 : r + smN (trmN ms m mask) 0 < smN (trmN ms m mask) ms.length := by
    show r + 0 < _
    omega
  refine ⟨h2, fun p hp => ?_⟩
  have h3 := pkT_spec (f := trmN ms m mask) (d := ms.length) (c := 0) (r := r) (by rw [Nat.zero_add]; exact h2)
  rw [hp] at h3
  obtain ⟨-, h4, h5⟩ := h3
  rw [Nat.zero_add] at h4
  have h6 : mask.testBit p.1 = false := by
    cases hb : mask.testBit p.1 with
    | false => rfl
    | true =>
      unfold trmN at h5
      rw [if_pos hb] at h5
      omega
  have h7 : trmN ms m mask p.1 = tlN ms m (aftN ms mask p.1) := by unfold trmN; rw [if_neg (by rw [h6]; simp)]
  have h8 := smN_le (f := trmN ms m mask) ms.length h4
  exact ⟨h4, h6, by omega, by omega, aftN_lt hl hm h4⟩
set_option maxHeartbeats 16000000 in
set_option maxRecDepth 100000 in
theorem l06At_ret (ms : List Nat) (hA : Alpha ms) (hl : ms.length ≤ 8) (n : Nat) (hn : n ≤ 24) (r : Nat) (hr : r < tlN ms n 0) (hb : tlN ms n 0 ≤ 1000000000000000) : Ret Tryd.prog G0 60 [⟨.ro, .agg [i64 ms.length, ints (natI ms)]⟩, ⟨.ro, .one (i64 n)⟩, ⟨.ro, .one (i64 r)⟩] ⟨.one (ints (natI (atN ms n 0 r))), []⟩ := by
  have hT := l06Tails_ret ms hA hl n hn
  have hml := tails_len ms (n + 1)
  have hp8 : 2 ^ ms.length ≤ 2 ^ 8 := Nat.pow_le_pow_right (by decide) hl
  have hw0 : IntKind.i64.wrap ((n : Int) - 1) = (n : Int) - 1 := wrap_i64 (by omega) (by omega)
  have hR0 : ∃ R, atN ms n 0 r = R := ⟨_, rfl⟩
  obtain ⟨R, hR⟩ := hR0
  have hRl : R.length = n := by rw [← hR]; exact atN_len ms n 0 r
  rw [hR]
  unfold rowsI at hT
  rw [hml] at hT
  (refine ret_of_den (E := en 57 [] (fun | 4 => [(2, 0), (3, 0), (7, 0), (8, 0), (9, 0), (10, 0)] | 7 => [(2, 0), (3, 0), (7, 0), (8, 0), (9, 0), (10, 0), (11, 0)] | _ => []) (fun _ => [])) tt_ok mixed Tryd.func60 rfl rfl rfl rfl ?_; refine ⟨by simp, ?_⟩)
  repeat' (first | ((first | refine opt_some (getC_rows rfl rfl (by omega)) ?_ | refine opt_some (by dsimp only; exact getC_lent rfl rfl (by omega)) ?_ | refine opt_some rfl ?_ | refine ⟨_, (by simp only [nf, nl, nm, en, ints, setC_setC, Nat.reduceAdd, Nat.reduceMul]; exact rfl), ?_⟩ | refine ⟨_, pickT rfl, ?_⟩ | refine ⟨_, rfl, ?_⟩ | refine iteP_true rfl ?_ | refine iteP_false rfl ?_ | refine iteP_true ‹_› ?_ | refine iteP_false ‹_› ?_ | refine andK ?_ | refine andA ?_ | refine andT ?_); conv => whnf) | (refine iteP_intro (fun hb => ?_) (fun hb => ?_) <;> (conv => whnf)))
  (refine ⟨_, hT, ?_⟩; conv => whnf)
  repeat' (first | ((first | refine opt_some (getC_rows rfl rfl (by omega)) ?_ | refine opt_some (by dsimp only; exact getC_lent rfl rfl (by omega)) ?_ | refine opt_some rfl ?_ | refine ⟨_, (by simp only [nf, nl, nm, en, ints, setC_setC, Nat.reduceAdd, Nat.reduceMul, hw0]; exact rfl), ?_⟩ | refine ⟨_, pickT rfl, ?_⟩ | refine ⟨_, rfl, ?_⟩ | refine iteP_true rfl ?_ | refine iteP_false rfl ?_ | refine iteP_true ‹_› ?_ | refine iteP_false ‹_› ?_ | refine andK ?_ | refine andA ?_ | refine andT ?_); conv => whnf) | (refine iteP_intro (fun hb => ?_) (fun hb => ?_) <;> (conv => whnf)))
  refine ⟨fun k vs => ∃ (m mask q : Nat) (out : List Nat), m ≤ n ∧ mask < 2 ^ ms.length ∧ q < tlN ms m mask ∧ tlN ms m mask ≤ 1000000000000000 ∧ out.length + m = n ∧ out ++ atN ms m mask q = R ∧ vs = [.one (i64 q), .one (.ptr [i64 ms.length, .shd (ints (natI ms))]), .one (.sl false 1 (n + 1) ((tails ms (n + 1)).map ints)), .one (ints (natI out)), .one (i64 mask), .one (i64 ((m : Int) - 1))] ∧ k = m, rfl, ⟨_, n, 0, r, [], Nat.le_refl _, Nat.two_pow_pos _, hr, hb, by simp, by rw [List.nil_append]; exact hR, rfl, rfl⟩, ?_⟩
  rintro k vs ⟨m, mask, q, out, hmn, hmk, hq, hqb, hol, hoR, rfl, rfl⟩
  have hon := natI_length out
  repeat (first | ((first | refine opt_some (getC_rows rfl rfl (by omega)) ?_ | refine opt_some (by dsimp only; exact getC_lent rfl rfl (by omega)) ?_ | refine opt_some rfl ?_ | refine ⟨_, (by simp only [nf, nl, nm, en, ints, setC_setC, Nat.reduceAdd, Nat.reduceMul]; exact rfl), ?_⟩ | refine ⟨_, pickT rfl, ?_⟩ | refine ⟨_, rfl, ?_⟩ | refine iteP_true rfl ?_ | refine iteP_false rfl ?_ | refine iteP_true ‹_› ?_ | refine iteP_false ‹_› ?_ | refine andK ?_ | refine andA ?_ | refine andT ?_); conv => whnf))
  refine iteP_intro (fun hb => ?_) (fun hb => ?_) <;> (conv => whnf)
  · have hk0 : 0 < k := by have : (k : Int) - 1 ≥ 0 := leT hb; omega
    obtain ⟨m, rfl⟩ : ∃ m, k = m + 1 := ⟨k - 1, by omega⟩
    have hpo := pick_ok hl hmk hq hqb
    obtain ⟨hps, hpk⟩ := hpo
    rw [atN] at hoR
    have hp0 : ∃ p, pkT (trmN ms m mask) ms.length 0 q = p := ⟨_, rfl⟩
    obtain ⟨p, hp⟩ := hp0
    have hpk := hpk p hp
    rw [hp] at hoR
    obtain ⟨a1, a2, a3, a4, a5⟩ := hpk
    have hgm := tails_get ms (n + 1) (i := m) (by omega)
    have hrl := tailR_len ms m
    have hgl : ((tails ms (n + 1))[m]'(by omega)).length = 2 ^ ms.length := by rw [hgm, hrl]
    have hmi : (((m + 1 : Nat) : Int) - 1) = (m : Int) := by omega
    have hwm : IntKind.i64.wrap ((m : Int) - 1) = (m : Int) - 1 := wrap_i64 (by omega) (by omega)
    rw [hmi]
    repeat (first | ((first | refine opt_some (getC_rows rfl rfl (by omega)) ?_ | refine opt_some (by dsimp only; exact getC_lent rfl rfl (by omega)) ?_ | refine opt_some rfl ?_ | refine ⟨_, (by simp only [nf, nl, nm, en, ints, setC_setC, Nat.reduceAdd, Nat.reduceMul]; exact rfl), ?_⟩ | refine ⟨_, pickT rfl, ?_⟩ | refine ⟨_, rfl, ?_⟩ | refine iteP_true rfl ?_ | refine iteP_false rfl ?_ | refine iteP_true ‹_› ?_ | refine iteP_false ‹_› ?_ | refine andK ?_ | refine andA ?_ | refine andT ?_); conv => whnf))
    refine ⟨fun k vs => ∃ (c v : Nat), c ≤ ms.length ∧ v + smN (trmN ms m mask) c < smN (trmN ms m mask) ms.length ∧ pkT (trmN ms m mask) (ms.length - c) c v = p ∧ v ≤ q ∧ vs = [.one (i64 v), .one (.ptr [i64 ms.length, .shd (ints (natI ms))]), .one (.sl false 1 (n + 1) ((tails ms (n + 1)).map ints)), .one (ints (natI out)), .one (i64 mask), .one (i64 m), .one (i64 c)] ∧ k = ms.length - c, rfl, ⟨_, 0, q, by omega, hps, by rw [Nat.sub_zero]; exact hp, Nat.le_refl _, rfl, rfl⟩, ?_⟩
    rintro k vs ⟨c, v, hc, hvs, hvp, hvq, rfl, rfl⟩
    repeat (first | ((first | refine opt_some (getC_rows rfl rfl (by omega)) ?_ | refine opt_some (by dsimp only; exact getC_lent rfl rfl (by omega)) ?_ | refine opt_some rfl ?_ | refine ⟨_, (by simp only [nf, nl, nm, en, ints, setC_setC, Nat.reduceAdd, Nat.reduceMul]; exact rfl), ?_⟩ | refine ⟨_, pickT rfl, ?_⟩ | refine ⟨_, rfl, ?_⟩ | refine iteP_true rfl ?_ | refine iteP_false rfl ?_ | refine iteP_true ‹_› ?_ | refine iteP_false ‹_› ?_ | refine andK ?_ | refine andA ?_ | refine andT ?_); conv => whnf))
    refine iteP_intro (fun hd => ?_) (fun hd => ?_) <;> (conv => whnf)
    · have hcl : c < ms.length := by have := leT hd; omega
      have hB := l01Bit_ret mask c (by omega) (by omega)
      have hss : smN (trmN ms m mask) (c + 1) = smN (trmN ms m mask) c + trmN ms m mask c := rfl
      obtain ⟨d, hd1⟩ : ∃ d, ms.length - c = d + 1 := ⟨ms.length - c - 1, by omega⟩
      have hd2 : ms.length - (c + 1) = d := by omega
      rw [hd1, pkT] at hvp
      by_cases hqb2 : mask.testBit c = true
      · have ht0 : trmN ms m mask c = 0 := by unfold trmN; rw [hqb2]; rfl
        rw [hqb2] at hB
        rw [ht0, if_neg (by omega), Nat.sub_zero] at hvp
        repeat (first | ((first | refine opt_some (getC_rows rfl rfl (by omega)) ?_ | refine opt_some (by dsimp only; exact getC_lent rfl rfl (by omega)) ?_ | refine opt_some rfl ?_ | refine ⟨_, (by simp only [nf, nl, nm, en, ints, setC_setC, Nat.reduceAdd, Nat.reduceMul]; exact rfl), ?_⟩ | refine ⟨_, pickT rfl, ?_⟩ | refine ⟨_, rfl, ?_⟩ | refine iteP_true rfl ?_ | refine iteP_false rfl ?_ | refine iteP_true ‹_› ?_ | refine iteP_false ‹_› ?_ | refine andK ?_ | refine andA ?_ | refine andT ?_); conv => whnf))
        (refine ⟨_, hB, ?_⟩; conv => whnf)
        repeat (first | ((first | refine opt_some (getC_rows rfl rfl (by omega)) ?_ | refine opt_some (by dsimp only; exact getC_lent rfl rfl (by omega)) ?_ | refine opt_some rfl ?_ | refine ⟨_, (by simp only [nf, nl, nm, en, ints, setC_setC, Nat.reduceAdd, Nat.reduceMul]; exact rfl), ?_⟩ | refine ⟨_, pickT rfl, ?_⟩ | refine ⟨_, rfl, ?_⟩ | refine iteP_true rfl ?_ | refine iteP_false rfl ?_ | refine iteP_true ‹_› ?_ | refine iteP_false ‹_› ?_ | refine andK ?_ | refine andA ?_ | refine andT ?_); conv => whnf))
        refine ⟨_, ?_, c + 1, v, hcl, by omega, by rw [hd2]; exact hvp, hvq, ?_, rfl⟩
        · omega
        · rw [wrap_succ (by omega)]
          rfl
      · have hqb2 : mask.testBit c = false := by simpa using hqb2
        have ht0 : trmN ms m mask c = tlN ms m (aftN ms mask c) := by unfold trmN; rw [hqb2]; rfl
        have hal := aftN_lt hl hmk hcl
        have hAf := l06After_ret ms.length ms mask c hcl hl hA.lt hmk
        have hga := tailR_get ms m (i := aftN ms mask c) (by omega)
        have htl := tlN_le ms m (aftN ms mask c)
        rw [hqb2] at hB
        by_cases hvf : v < trmN ms m mask c
        · rw [if_pos hvf] at hvp
          have hlt : decide ((v : Int) < ((tlN ms m (aftN ms mask c) : Nat) : Int)) = true := decide_eq_true (by omega)
          have hpc : p.1 = c := by rw [← hvp]
          have hpv : p.2 = v := by rw [← hvp]
          rw [hpc] at hoR a3 a4 a5
          rw [hpv] at hoR a3
          have hsn := ints_natI_snoc out c
          repeat (first | ((first | refine opt_some (getC_rows rfl rfl (by omega)) ?_ | refine opt_some (by dsimp only; exact getC_lent rfl rfl (by omega)) ?_ | refine opt_some rfl ?_ | refine ⟨_, (by simp only [nf, nl, nm, en, ints, setC_setC, Nat.reduceAdd, Nat.reduceMul]; exact rfl), ?_⟩ | refine ⟨_, pickT rfl, ?_⟩ | refine ⟨_, rfl, ?_⟩ | refine iteP_true rfl ?_ | refine iteP_false rfl ?_ | refine iteP_true ‹_› ?_ | refine iteP_false ‹_› ?_ | refine andK ?_ | refine andA ?_ | refine andT ?_); conv => whnf))
          (refine ⟨_, hB, ?_⟩; conv => whnf)
          repeat (first | ((first | refine opt_some (getC_rows rfl rfl (by omega)) ?_ | refine opt_some (by dsimp only; exact getC_lent rfl rfl (by omega)) ?_ | refine opt_some rfl ?_ | refine ⟨_, (by simp only [nf, nl, nm, en, ints, setC_setC, Nat.reduceAdd, Nat.reduceMul, hgm]; exact rfl), ?_⟩ | refine ⟨_, pickT rfl, ?_⟩ | refine ⟨_, rfl, ?_⟩ | refine iteP_true rfl ?_ | refine iteP_false rfl ?_ | refine iteP_true ‹_› ?_ | refine iteP_false ‹_› ?_ | refine andK ?_ | refine andA ?_ | refine andT ?_); conv => whnf))
          (refine ⟨_, hAf, ?_⟩; conv => whnf)
          repeat (first | ((first | refine opt_some (getC_rows rfl rfl (by omega)) ?_ | refine opt_some (by dsimp only; exact getC_lent rfl rfl (by omega)) ?_ | refine opt_some rfl ?_ | refine ⟨_, (by simp only [nf, nl, nm, en, ints, setC_setC, Nat.reduceAdd, Nat.reduceMul, hgm, hga, hlt]; exact rfl), ?_⟩ | refine ⟨_, pickT rfl, ?_⟩ | refine ⟨_, rfl, ?_⟩ | refine iteP_true rfl ?_ | refine iteP_false rfl ?_ | refine iteP_true ‹_› ?_ | refine iteP_false ‹_› ?_ | refine andK ?_ | refine andA ?_ | refine andT ?_); conv => whnf))
          (refine ⟨_, hAf, ?_⟩; conv => whnf)
          repeat (first | ((first | refine opt_some (getC_rows rfl rfl (by omega)) ?_ | refine opt_some (by dsimp only; exact getC_lent rfl rfl (by omega)) ?_ | refine opt_some rfl ?_ | refine ⟨_, (by simp only [nf, nl, nm, en, ints, setC_setC, Nat.reduceAdd, Nat.reduceMul, hwm]; exact rfl), ?_⟩ | refine ⟨_, pickT rfl, ?_⟩ | refine ⟨_, rfl, ?_⟩ | refine iteP_true rfl ?_ | refine iteP_false rfl ?_ | refine iteP_true ‹_› ?_ | refine iteP_false ‹_› ?_ | refine andK ?_ | refine andA ?_ | refine andT ?_); conv => whnf))
          refine ⟨_, ?_, m, aftN ms mask c, v, out ++ [c], by omega, a5, a3, a4, by rw [List.length_append, List.length_singleton]; omega, by rw [List.append_assoc]; exact hoR, ?_, rfl⟩
          · omega
          · rw [hsn]
            rfl
        · rw [if_neg hvf] at hvp
          have hlt : decide ((v : Int) < ((tlN ms m (aftN ms mask c) : Nat) : Int)) = false := decide_eq_false (by omega)
          have hws : IntKind.i64.wrap ((v : Int) - ((tlN ms m (aftN ms mask c) : Nat) : Int)) = ((v - trmN ms m mask c : Nat) : Int) := by rw [wrap_i64 (by omega) (by omega)]; omega
          repeat (first | ((first | refine opt_some (getC_rows rfl rfl (by omega)) ?_ | refine opt_some (by dsimp only; exact getC_lent rfl rfl (by omega)) ?_ | refine opt_some rfl ?_ | refine ⟨_, (by simp only [nf, nl, nm, en, ints, setC_setC, Nat.reduceAdd, Nat.reduceMul]; exact rfl), ?_⟩ | refine ⟨_, pickT rfl, ?_⟩ | refine ⟨_, rfl, ?_⟩ | refine iteP_true rfl ?_ | refine iteP_false rfl ?_ | refine iteP_true ‹_› ?_ | refine iteP_false ‹_› ?_ | refine andK ?_ | refine andA ?_ | refine andT ?_); conv => whnf))
          (refine ⟨_, hB, ?_⟩; conv => whnf)
          repeat (first | ((first | refine opt_some (getC_rows rfl rfl (by omega)) ?_ | refine opt_some (by dsimp only; exact getC_lent rfl rfl (by omega)) ?_ | refine opt_some rfl ?_ | refine ⟨_, (by simp only [nf, nl, nm, en, ints, setC_setC, Nat.reduceAdd, Nat.reduceMul, hgm]; exact rfl), ?_⟩ | refine ⟨_, pickT rfl, ?_⟩ | refine ⟨_, rfl, ?_⟩ | refine iteP_true rfl ?_ | refine iteP_false rfl ?_ | refine iteP_true ‹_› ?_ | refine iteP_false ‹_› ?_ | refine andK ?_ | refine andA ?_ | refine andT ?_); conv => whnf))
          (refine ⟨_, hAf, ?_⟩; conv => whnf)
          repeat (first | ((first | refine opt_some (getC_rows rfl rfl (by omega)) ?_ | refine opt_some (by dsimp only; exact getC_lent rfl rfl (by omega)) ?_ | refine opt_some rfl ?_ | refine ⟨_, (by simp only [nf, nl, nm, en, ints, setC_setC, Nat.reduceAdd, Nat.reduceMul, hgm, hga, hlt, hws]; exact rfl), ?_⟩ | refine ⟨_, pickT rfl, ?_⟩ | refine ⟨_, rfl, ?_⟩ | refine iteP_true rfl ?_ | refine iteP_false rfl ?_ | refine iteP_true ‹_› ?_ | refine iteP_false ‹_› ?_ | refine andK ?_ | refine andA ?_ | refine andT ?_); conv => whnf))
          refine ⟨_, ?_, c + 1, v - trmN ms m mask c, hcl, by omega, by rw [hd2]; exact hvp, by omega, ?_, rfl⟩
          · omega
          · rw [wrap_succ (by omega)]
            rfl
    · have hce : c = ms.length := by have := leF hd; omega
      subst hce
      omega
  · have hk0 : k = 0 := by have : ¬ ((k : Int) - 1 ≥ 0) := leF hb; omega
    subst hk0
    rw [atN, List.append_nil] at hoR
    subst hoR
    repeat' (first | ((first | refine opt_some (getC_rows rfl rfl (by omega)) ?_ | refine opt_some (by dsimp only; exact getC_lent rfl rfl (by omega)) ?_ | refine opt_some rfl ?_ | refine ⟨_, (by simp only [nf, nl, nm, en, ints, setC_setC, Nat.reduceAdd, Nat.reduceMul]; exact rfl), ?_⟩ | refine ⟨_, pickT rfl, ?_⟩ | refine ⟨_, rfl, ?_⟩ | refine iteP_true rfl ?_ | refine iteP_false rfl ?_ | refine iteP_true ‹_› ?_ | refine iteP_false ‹_› ?_ | refine andK ?_ | refine andA ?_ | refine andT ?_); conv => whnf) | (refine iteP_intro (fun hb => ?_) (fun hb => ?_) <;> (conv => whnf)))
    rfl
end Go.Proofs.YtihdeagknggeiaaDoor
