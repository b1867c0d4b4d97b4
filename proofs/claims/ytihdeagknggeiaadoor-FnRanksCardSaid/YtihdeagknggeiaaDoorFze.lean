import Derived.Test.YtihdeagknggeiaaDoorFzd
set_option autoImplicit false
set_option linter.unusedSimpArgs false
set_option linter.unusedVariables false
namespace Go.Proofs.YtihdeagknggeiaaDoor
open Go.Den
theorem smN_upto {f : Nat → Nat} {L b : Nat} (h : ∀ c < L, f c ≤ b) : ∀ i, i ≤ L → smN f i ≤ i * b
  | 0, _ => by simp [smN]
  | i + 1, hi => by
    have h1 := smN_upto h i (by omega)
    have h2 := h i (by omega)
    rw [smN, Nat.add_mul, Nat.one_mul]
    omega
/-! How many traces go on behind a set of letters that must not come first. -/
def aftN (ms : List Nat) (mask c : Nat) : Nat := andn (mask ||| (2 ^ c - 1)) (ms.getD c 0)
def tlN (ms : List Nat) (m mask : Nat) : Nat := min (cntB ms.length (dep ms) m mask.testBit) 1000000000000001
theorem aftN_lt {ms : List Nat} (hl : ms.length ≤ 8) {mask c : Nat} (hm : mask < 2 ^ ms.length) (hc : c < ms.length) : aftN ms mask c < 2 ^ ms.length := by
  have h1 := mask_lt hm hc
  have h2 : mask ||| (2 ^ c - 1) < 2 ^ 63 := Nat.lt_of_lt_of_le h1 (Nat.pow_le_pow_right (by decide) (by omega))
  have h3 := andn_sub (ms.getD c 0) h2
  unfold aftN
  omega
theorem aftN_bit {ms : List Nat} (hl : ms.length ≤ 8) {mask c : Nat} (hm : mask < 2 ^ ms.length) (hc : c < ms.length) : (aftN ms mask c).testBit = aftB (dep ms) mask.testBit c := by
  have h1 := mask_lt hm hc
  have h2 : mask ||| (2 ^ c - 1) < 2 ^ 63 := Nat.lt_of_lt_of_le h1 (Nat.pow_le_pow_right (by decide) (by omega))
  funext b
  unfold aftN aftB dep
  rw [andn_bit _ _ h2, Nat.testBit_or, Nat.testBit_two_pow_sub_one]
theorem tlN_le (ms : List Nat) (m mask : Nat) : tlN ms m mask ≤ 1000000000000001 := Nat.min_le_right _ _
theorem tlN_zero (ms : List Nat) (mask : Nat) : tlN ms 0 mask = 1 := rfl
def trmN (ms : List Nat) (m mask : Nat) : Nat → Nat := fun c => if mask.testBit c then 0 else tlN ms m (aftN ms mask c)
theorem tlN_succ {ms : List Nat} (hl : ms.length ≤ 8) {m mask : Nat} (hm : mask < 2 ^ ms.length) : tlN ms (m + 1) mask = min (smN (trmN ms m mask) ms.length) 1000000000000001 := by
  unfold tlN
  rw [cntB, ← smN_min]
  congr 1
  refine smN_congr _ fun c hc => ?_
  unfold trmN
  by_cases hb : mask.testBit c = true
  · rw [if_pos hb, if_pos hb]
    rfl
  · rw [if_neg hb, if_neg hb, tlN, aftN_bit hl hm hc]
theorem trmN_le (ms : List Nat) (m mask c : Nat) : trmN ms m mask c ≤ 1000000000000001 := by
  unfold trmN
  split
  · omega
  · exact tlN_le _ _ _
theorem tlN_trc (ms : List Nat) (m : Nat) : tlN ms m 0 = min (trc ms.length (dep ms) m) 1000000000000001 := by
  unfold tlN trc
  congr 2
  funext b
  exact Nat.zero_testBit b
/-- The numbers for one length. -/
def tailR (ms : List Nat) (m : Nat) : List Int := natI ((List.range (2 ^ ms.length)).map (tlN ms m))
theorem tailR_len (ms : List Nat) (m : Nat) : (tailR ms m).length = 2 ^ ms.length := by simp [tailR, natI]
theorem tailR_get (ms : List Nat) (m : Nat) {i : Nat} (h : i < (tailR ms m).length) : (tailR ms m)[i] = ((tlN ms m i : Nat) : Int) := by simp [tailR, natI]
def tails (ms : List Nat) (n : Nat) : List (List Int) := (List.range n).map (tailR ms)
theorem tails_len (ms : List Nat) (n : Nat) : (tails ms n).length = n := by simp [tails]
theorem tails_get (ms : List Nat) (n : Nat) {i : Nat} (h : i < (tails ms n).length) : (tails ms n)[i] = tailR ms i := by simp [tails]
theorem tails_snoc (ms : List Nat) (n : Nat) : tails ms (n + 1) = tails ms n ++ [tailR ms n] := by simp [tails, List.range_succ]
set_option maxHeartbeats 16000000 in
set_option maxRecDepth 100000 in
theorem l06After_ret (n : Int) (ms : List Nat) (mask c : Nat) (hc : c < ms.length) (hl : ms.length ≤ 8) (hA : ∀ m ∈ ms, m < 2 ^ ms.length) (hm : mask < 2 ^ ms.length) : Ret Tryd.prog G0 77 [⟨.ro, .agg [i64 n, ints (natI ms)]⟩, ⟨.ro, .one (i64 mask)⟩, ⟨.ro, .one (i64 c)⟩] ⟨.one (i64 (aftN ms mask c : Nat)), []⟩ := by
  have hg := natI_getD hc
  have hn := natI_length ms
  have h63 := getD_lt hA hc (by omega)
  have hlt := mask_lt hm hc
  have hlt2 : mask ||| (2 ^ c - 1) < 2 ^ 63 := Nat.lt_of_lt_of_le hlt (Nat.pow_le_pow_right (by decide) (by omega))
  have hp := pow_i64 (i := c) (by omega)
  have hp1 := Nat.two_pow_pos c
  have hs63 : mask < 2 ^ 63 := Nat.lt_of_lt_of_le hm (Nat.pow_le_pow_right (by decide) (by omega))
  have h0 : ((2 ^ c : Nat) : Int) - 1 = ((2 ^ c - 1 : Nat) : Int) := by omega
  have h2 := or_i64 (a := mask) (b := 2 ^ c - 1) hs63 (by omega)
  have h3 := and_i64 (a := mask ||| (2 ^ c - 1)) (b := ms.getD c 0) hlt2
  have h4 := andn_sub (ms.getD c 0) hlt2
  have h5 : IntKind.i64.wrap ((((mask ||| (2 ^ c - 1) : Nat)) : Int) - ((((mask ||| (2 ^ c - 1)) &&& ms.getD c 0 : Nat)) : Int)) = ((aftN ms mask c : Nat) : Int) := by
    unfold aftN
    rw [wrap_i64 (by omega) (by omega)]; omega
  have hF := l01Full_ret c (by omega)
  (refine ret_of_den (E := en 22 [] (fun _ => []) (fun _ => [])) tt_ok mixed Tryd.func77 rfl rfl rfl rfl ?_; refine ⟨by simp, ?_⟩)
  repeat' (first | ((first | refine opt_some (getC_rows rfl rfl (by omega)) ?_ | refine opt_some (by dsimp only; exact getC_lent rfl rfl (by omega)) ?_ | refine opt_some rfl ?_ | refine ⟨_, (by simp only [nf, nl, nm, en, ints, setC_setC, Nat.reduceAdd, Nat.reduceMul]; exact rfl), ?_⟩ | refine ⟨_, pickT rfl, ?_⟩ | refine ⟨_, rfl, ?_⟩ | refine iteP_true rfl ?_ | refine iteP_false rfl ?_ | refine iteP_true ‹_› ?_ | refine iteP_false ‹_› ?_ | refine andK ?_ | refine andA ?_ | refine andT ?_); conv => whnf) | (refine iteP_intro (fun hb => ?_) (fun hb => ?_) <;> (conv => whnf)))
  (refine ⟨_, hF, ?_⟩; conv => whnf)
  repeat' (first | ((first | refine opt_some (getC_rows rfl rfl (by omega)) ?_ | refine opt_some (by dsimp only; exact getC_lent rfl rfl (by omega)) ?_ | refine opt_some rfl ?_ | refine ⟨_, (by simp only [nf, nl, nm, en, ints, setC_setC, Nat.reduceAdd, Nat.reduceMul, h0, h2]; exact rfl), ?_⟩ | refine ⟨_, pickT rfl, ?_⟩ | refine ⟨_, rfl, ?_⟩ | refine iteP_true rfl ?_ | refine iteP_false rfl ?_ | refine iteP_true ‹_› ?_ | refine iteP_false ‹_› ?_ | refine andK ?_ | refine andA ?_ | refine andT ?_); conv => whnf) | (refine iteP_intro (fun hb => ?_) (fun hb => ?_) <;> (conv => whnf)))
  (refine ⟨_, hF, ?_⟩; conv => whnf)
  repeat' (first | ((first | refine opt_some (getC_rows rfl rfl (by omega)) ?_ | refine opt_some (by dsimp only; exact getC_lent rfl rfl (by omega)) ?_ | refine opt_some rfl ?_ | refine ⟨_, (by simp only [nf, nl, nm, en, ints, setC_setC, Nat.reduceAdd, Nat.reduceMul, hg, h0, h2, h3, h5]; exact rfl), ?_⟩ | refine ⟨_, pickT rfl, ?_⟩ | refine ⟨_, rfl, ?_⟩ | refine iteP_true rfl ?_ | refine iteP_false rfl ?_ | refine iteP_true ‹_› ?_ | refine iteP_false ‹_› ?_ | refine andK ?_ | refine andA ?_ | refine andT ?_); conv => whnf) | (refine iteP_intro (fun hb => ?_) (fun hb => ?_) <;> (conv => whnf)))
  rfl
set_option maxHeartbeats 16000000 in
set_option maxRecDepth 100000 in
theorem l06Tails_ret (ms : List Nat) (hA : Alpha ms) (hl : ms.length ≤ 8) (n : Nat) (hn : n ≤ 24) : Ret Tryd.prog G0 75 [⟨.ro, .agg [i64 ms.length, ints (natI ms)]⟩, ⟨.ro, .one (i64 n)⟩] ⟨.one (rowsI (tails ms (n + 1))), []⟩ := by
  have hO := l01One_ret ms.length (by omega)
  have hp8 : 2 ^ ms.length ≤ 2 ^ 8 := Nat.pow_le_pow_right (by decide) hl
  have hp0 := Nat.two_pow_pos ms.length
  have hSz : ∃ z, 2 ^ ms.length = z ∧ z ≤ 256 := ⟨_, rfl, hp8⟩
  obtain ⟨z, hz, hz8⟩ := hSz
  unfold rowsI
  (refine ret_of_den (E := en 73 [] (fun | 4 => [(1, 0), (2, 0), (5, 0), (6, 0), (7, 0)] | 9 => [(1, 0), (2, 0), (5, 0), (8, 0), (9, 0)] | 13 => [(1, 0), (2, 0), (5, 0), (8, 0), (9, 0), (10, 0), (11, 0)] | 17 => [(1, 0), (2, 0), (5, 0), (8, 0), (9, 0), (10, 0), (11, 0), (12, 0), (13, 0)] | _ => []) (fun _ => [])) tt_ok mixed Tryd.func75 rfl rfl rfl rfl ?_; refine ⟨by simp, ?_⟩)
  repeat' (first | ((first | refine opt_some (getC_rows rfl rfl (by omega)) ?_ | refine opt_some (by dsimp only; exact getC_lent rfl rfl (by omega)) ?_ | refine opt_some rfl ?_ | refine ⟨_, (by simp only [nf, nl, nm, en, ints, setC_setC, Nat.reduceAdd, Nat.reduceMul]; exact rfl), ?_⟩ | refine ⟨_, pickT rfl, ?_⟩ | refine ⟨_, rfl, ?_⟩ | refine iteP_true rfl ?_ | refine iteP_false rfl ?_ | refine iteP_true ‹_› ?_ | refine iteP_false ‹_› ?_ | refine andK ?_ | refine andA ?_ | refine andT ?_); conv => whnf) | (refine iteP_intro (fun hb => ?_) (fun hb => ?_) <;> (conv => whnf)))
  (refine ⟨_, hO, ?_⟩; conv => whnf)
  repeat' (first | ((first | refine opt_some (getC_rows rfl rfl (by omega)) ?_ | refine opt_some (by dsimp only; exact getC_lent rfl rfl (by omega)) ?_ | refine opt_some rfl ?_ | refine ⟨_, (by simp only [nf, nl, nm, en, ints, setC_setC, Nat.reduceAdd, Nat.reduceMul]; exact rfl), ?_⟩ | refine ⟨_, pickT rfl, ?_⟩ | refine ⟨_, rfl, ?_⟩ | refine iteP_true rfl ?_ | refine iteP_false rfl ?_ | refine iteP_true ‹_› ?_ | refine iteP_false ‹_› ?_ | refine andK ?_ | refine andA ?_ | refine andT ?_); conv => whnf) | (refine iteP_intro (fun hb => ?_) (fun hb => ?_) <;> (conv => whnf)))
  rw [hz]
  refine ⟨fun k vs => ∃ i : Nat, i ≤ z ∧ vs = [.one (i64 n), .one (.ptr [i64 ms.length, .shd (ints (natI ms))]), .one (i64 z), .one (ints (natI ((List.range i).map (tlN ms 0)))), .one (i64 i)] ∧ k = z - i, rfl, ⟨_, 0, by omega, rfl, rfl⟩, ?_⟩
  rintro k vs ⟨i, hi, rfl, rfl⟩
  have hil : (natI ((List.range i).map (tlN ms 0))).length = i := by rw [natI_length, List.length_map, List.length_range]
  repeat (first | ((first | refine opt_some (getC_rows rfl rfl (by omega)) ?_ | refine opt_some (by dsimp only; exact getC_lent rfl rfl (by omega)) ?_ | refine opt_some rfl ?_ | refine ⟨_, (by simp only [nf, nl, nm, en, ints, setC_setC, Nat.reduceAdd, Nat.reduceMul]; exact rfl), ?_⟩ | refine ⟨_, pickT rfl, ?_⟩ | refine ⟨_, rfl, ?_⟩ | refine iteP_true rfl ?_ | refine iteP_false rfl ?_ | refine iteP_true ‹_› ?_ | refine iteP_false ‹_› ?_ | refine andK ?_ | refine andA ?_ | refine andT ?_); conv => whnf))
  refine iteP_intro (fun hb => ?_) (fun hb => ?_) <;> (conv => whnf)
  · have hi' : i < z := by have := leT hb; omega
    have hsn : ints (natI ((List.range (i + 1)).map (tlN ms 0))) = .sl false 1 (i + 1) ((natI ((List.range i).map (tlN ms 0))).map i64 ++ [i64 1]) := by
      rw [List.range_succ, List.map_append, List.map_singleton, natI_snoc, ints_snoc, hil]
      rfl
    repeat (first | ((first | refine opt_some (getC_rows rfl rfl (by omega)) ?_ | refine opt_some (by dsimp only; exact getC_lent rfl rfl (by omega)) ?_ | refine opt_some rfl ?_ | refine ⟨_, (by simp only [nf, nl, nm, en, ints, setC_setC, Nat.reduceAdd, Nat.reduceMul]; exact rfl), ?_⟩ | refine ⟨_, pickT rfl, ?_⟩ | refine ⟨_, rfl, ?_⟩ | refine iteP_true rfl ?_ | refine iteP_false rfl ?_ | refine iteP_true ‹_› ?_ | refine iteP_false ‹_› ?_ | refine andK ?_ | refine andA ?_ | refine andT ?_); conv => whnf))
    refine ⟨_, ?_, i + 1, hi', ?_, rfl⟩
    · omega
    · rw [wrap_succ (by omega), hsn, hil]
      rfl
  have hie : i = z := by have := leF hb; omega
  subst hie
  have hfirst : natI ((List.range i).map (tlN ms 0)) = tailR ms 0 := by unfold tailR; rw [hz]
  rw [hfirst] at *
  repeat (first | ((first | refine opt_some (getC_rows rfl rfl (by omega)) ?_ | refine opt_some (by dsimp only; exact getC_lent rfl rfl (by omega)) ?_ | refine opt_some rfl ?_ | refine ⟨_, (by simp only [nf, nl, nm, en, ints, setC_setC, Nat.reduceAdd, Nat.reduceMul]; exact rfl), ?_⟩ | refine ⟨_, pickT rfl, ?_⟩ | refine ⟨_, rfl, ?_⟩ | refine iteP_true rfl ?_ | refine iteP_false rfl ?_ | refine iteP_true ‹_› ?_ | refine iteP_false ‹_› ?_ | refine andK ?_ | refine andA ?_ | refine andT ?_); conv => whnf))
  refine ⟨fun k vs => ∃ m : Nat, 1 ≤ m ∧ m ≤ n + 1 ∧ vs = [.one (i64 n), .one (.ptr [i64 ms.length, .shd (ints (natI ms))]), .one (i64 i), .one (.sl false 1 m ((tails ms m).map ints)), .one (i64 m)] ∧ k = n + 1 - m, rfl, ⟨_, 1, Nat.le_refl _, by omega, rfl, rfl⟩, ?_⟩
  rintro k vs ⟨m, hm1, hm, rfl, rfl⟩
  have hml := tails_len ms m
  repeat (first | ((first | refine opt_some (getC_rows rfl rfl (by omega)) ?_ | refine opt_some (by dsimp only; exact getC_lent rfl rfl (by omega)) ?_ | refine opt_some rfl ?_ | refine ⟨_, (by simp only [nf, nl, nm, en, ints, setC_setC, Nat.reduceAdd, Nat.reduceMul]; exact rfl), ?_⟩ | refine ⟨_, pickT rfl, ?_⟩ | refine ⟨_, rfl, ?_⟩ | refine iteP_true rfl ?_ | refine iteP_false rfl ?_ | refine iteP_true ‹_› ?_ | refine iteP_false ‹_› ?_ | refine andK ?_ | refine andA ?_ | refine andT ?_); conv => whnf))
  refine iteP_intro (fun hc => ?_) (fun hc => ?_) <;> (conv => whnf)
  · have hmn : m ≤ n := by have := leT hc; omega
    have hw1 : IntKind.i64.wrap ((m : Int) - 1) = ((m - 1 : Nat) : Int) := by rw [wrap_i64 (by omega) (by omega)]; omega
    have hgm := tails_get ms m (i := m - 1) (by omega)
    have hrl := tailR_len ms (m - 1)
    have hgl : ((tails ms m)[m - 1]'(by omega)).length = 2 ^ ms.length := by rw [hgm, hrl]
    have hms : m = (m - 1) + 1 := by omega
    repeat (first | ((first | refine opt_some (getC_rows rfl rfl (by omega)) ?_ | refine opt_some (by dsimp only; exact getC_lent rfl rfl (by omega)) ?_ | refine opt_some rfl ?_ | refine ⟨_, (by simp only [nf, nl, nm, en, ints, setC_setC, Nat.reduceAdd, Nat.reduceMul]; exact rfl), ?_⟩ | refine ⟨_, pickT rfl, ?_⟩ | refine ⟨_, rfl, ?_⟩ | refine iteP_true rfl ?_ | refine iteP_false rfl ?_ | refine iteP_true ‹_› ?_ | refine iteP_false ‹_› ?_ | refine andK ?_ | refine andA ?_ | refine andT ?_); conv => whnf))
    refine ⟨fun k vs => ∃ q : Nat, q ≤ i ∧ vs = [.one (i64 n), .one (.ptr [i64 ms.length, .shd (ints (natI ms))]), .one (i64 i), .one (.sl false 1 m ((tails ms m).map ints)), .one (i64 m), .one (ints (natI ((List.range q).map (tlN ms m)))), .one (i64 q)] ∧ k = i - q, rfl, ⟨_, 0, by omega, rfl, rfl⟩, ?_⟩
    rintro k vs ⟨q, hq, rfl, rfl⟩
    have hql : (natI ((List.range q).map (tlN ms m))).length = q := by rw [natI_length, List.length_map, List.length_range]
    repeat (first | ((first | refine opt_some (getC_rows rfl rfl (by omega)) ?_ | refine opt_some (by dsimp only; exact getC_lent rfl rfl (by omega)) ?_ | refine opt_some rfl ?_ | refine ⟨_, (by simp only [nf, nl, nm, en, ints, setC_setC, Nat.reduceAdd, Nat.reduceMul]; exact rfl), ?_⟩ | refine ⟨_, pickT rfl, ?_⟩ | refine ⟨_, rfl, ?_⟩ | refine iteP_true rfl ?_ | refine iteP_false rfl ?_ | refine iteP_true ‹_› ?_ | refine iteP_false ‹_› ?_ | refine andK ?_ | refine andA ?_ | refine andT ?_); conv => whnf))
    refine iteP_intro (fun hd => ?_) (fun hd => ?_) <;> (conv => whnf)
    · have hq' : q < i := by have := leT hd; omega
      have hqm : q < 2 ^ ms.length := by omega
      have hsc := tlN_succ hl (m := m - 1) hqm
      rw [← hms] at hsc
      have hsn : ints (natI ((List.range (q + 1)).map (tlN ms m))) = .sl false 1 (q + 1) ((natI ((List.range q).map (tlN ms m))).map i64 ++ [i64 ((tlN ms m q : Nat) : Int)]) := by
        rw [List.range_succ, List.map_append, List.map_singleton, natI_snoc, ints_snoc, hql]
      repeat (first | ((first | refine opt_some (getC_rows rfl rfl (by omega)) ?_ | refine opt_some (by dsimp only; exact getC_lent rfl rfl (by omega)) ?_ | refine opt_some rfl ?_ | refine ⟨_, (by simp only [nf, nl, nm, en, ints, setC_setC, Nat.reduceAdd, Nat.reduceMul]; exact rfl), ?_⟩ | refine ⟨_, pickT rfl, ?_⟩ | refine ⟨_, rfl, ?_⟩ | refine iteP_true rfl ?_ | refine iteP_false rfl ?_ | refine iteP_true ‹_› ?_ | refine iteP_false ‹_› ?_ | refine andK ?_ | refine andA ?_ | refine andT ?_); conv => whnf))
      refine ⟨fun k vs => ∃ c : Nat, c ≤ ms.length ∧ vs = [.one (i64 n), .one (.ptr [i64 ms.length, .shd (ints (natI ms))]), .one (i64 i), .one (.sl false 1 m ((tails ms m).map ints)), .one (i64 m), .one (ints (natI ((List.range q).map (tlN ms m)))), .one (i64 q), .one (i64 ((smN (trmN ms (m - 1) q) c : Nat) : Int)), .one (i64 c)] ∧ k = ms.length - c, rfl, ⟨_, 0, by omega, rfl, rfl⟩, ?_⟩
      rintro k vs ⟨c, hc', rfl, rfl⟩
      have hsb := smN_upto (f := trmN ms (m - 1) q) (L := ms.length) (b := 1000000000000001) (fun c _ => trmN_le _ _ _ _) c hc'
      have hsb8 : smN (trmN ms (m - 1) q) c ≤ 8 * 1000000000000001 := Nat.le_trans hsb (Nat.mul_le_mul_right _ (by omega))
      repeat (first | ((first | refine opt_some (getC_rows rfl rfl (by omega)) ?_ | refine opt_some (by dsimp only; exact getC_lent rfl rfl (by omega)) ?_ | refine opt_some rfl ?_ | refine ⟨_, (by simp only [nf, nl, nm, en, ints, setC_setC, Nat.reduceAdd, Nat.reduceMul]; exact rfl), ?_⟩ | refine ⟨_, pickT rfl, ?_⟩ | refine ⟨_, rfl, ?_⟩ | refine iteP_true rfl ?_ | refine iteP_false rfl ?_ | refine iteP_true ‹_› ?_ | refine iteP_false ‹_› ?_ | refine andK ?_ | refine andA ?_ | refine andT ?_); conv => whnf))
      refine iteP_intro (fun he => ?_) (fun he => ?_) <;> (conv => whnf)
      · have hcl : c < ms.length := by have := leT he; omega
        have hB := l01Bit_ret q c (by omega) (by omega)
        have hss : smN (trmN ms (m - 1) q) (c + 1) = smN (trmN ms (m - 1) q) c + trmN ms (m - 1) q c := rfl
        by_cases hqb : q.testBit c = true
        · have ht0 : trmN ms (m - 1) q c = 0 := by unfold trmN; rw [hqb]; rfl
          rw [hqb] at hB
          repeat (first | ((first | refine opt_some (getC_rows rfl rfl (by omega)) ?_ | refine opt_some (by dsimp only; exact getC_lent rfl rfl (by omega)) ?_ | refine opt_some rfl ?_ | refine ⟨_, (by simp only [nf, nl, nm, en, ints, setC_setC, Nat.reduceAdd, Nat.reduceMul]; exact rfl), ?_⟩ | refine ⟨_, pickT rfl, ?_⟩ | refine ⟨_, rfl, ?_⟩ | refine iteP_true rfl ?_ | refine iteP_false rfl ?_ | refine iteP_true ‹_› ?_ | refine iteP_false ‹_› ?_ | refine andK ?_ | refine andA ?_ | refine andT ?_); conv => whnf))
          (refine ⟨_, hB, ?_⟩; conv => whnf)
          repeat (first | ((first | refine opt_some (getC_rows rfl rfl (by omega)) ?_ | refine opt_some (by dsimp only; exact getC_lent rfl rfl (by omega)) ?_ | refine opt_some rfl ?_ | refine ⟨_, (by simp only [nf, nl, nm, en, ints, setC_setC, Nat.reduceAdd, Nat.reduceMul]; exact rfl), ?_⟩ | refine ⟨_, pickT rfl, ?_⟩ | refine ⟨_, rfl, ?_⟩ | refine iteP_true rfl ?_ | refine iteP_false rfl ?_ | refine iteP_true ‹_› ?_ | refine iteP_false ‹_› ?_ | refine andK ?_ | refine andA ?_ | refine andT ?_); conv => whnf))
          refine ⟨_, ?_, c + 1, hcl, ?_, rfl⟩
          · omega
          · rw [wrap_succ (by omega), hss, ht0]
            rfl
        · have hqb : q.testBit c = false := by simpa using hqb
          have ht0 : trmN ms (m - 1) q c = tlN ms (m - 1) (aftN ms q c) := by unfold trmN; rw [hqb]; rfl
          have htl := tlN_le ms (m - 1) (aftN ms q c)
          have hal := aftN_lt hl hqm hcl
          have hAf := l06After_ret ms.length ms q c hcl hl hA.lt hqm
          have hga := tailR_get ms (m - 1) (i := aftN ms q c) (by omega)
          have hwa : IntKind.i64.wrap (((smN (trmN ms (m - 1) q) c : Nat) : Int) + ((tlN ms (m - 1) (aftN ms q c) : Nat) : Int)) = ((smN (trmN ms (m - 1) q) (c + 1) : Nat) : Int) := by
            rw [hss, ht0, wrap_i64 (by omega) (by omega)]
            omega
          rw [hqb] at hB
          repeat (first | ((first | refine opt_some (getC_rows rfl rfl (by omega)) ?_ | refine opt_some (by dsimp only; exact getC_lent rfl rfl (by omega)) ?_ | refine opt_some rfl ?_ | refine ⟨_, (by simp only [nf, nl, nm, en, ints, setC_setC, Nat.reduceAdd, Nat.reduceMul]; exact rfl), ?_⟩ | refine ⟨_, pickT rfl, ?_⟩ | refine ⟨_, rfl, ?_⟩ | refine iteP_true rfl ?_ | refine iteP_false rfl ?_ | refine iteP_true ‹_› ?_ | refine iteP_false ‹_› ?_ | refine andK ?_ | refine andA ?_ | refine andT ?_); conv => whnf))
          (refine ⟨_, hB, ?_⟩; conv => whnf)
          repeat (first | ((first | refine opt_some (getC_rows rfl rfl (by omega)) ?_ | refine opt_some (by dsimp only; exact getC_lent rfl rfl (by omega)) ?_ | refine opt_some rfl ?_ | refine ⟨_, (by simp only [nf, nl, nm, en, ints, setC_setC, Nat.reduceAdd, Nat.reduceMul, hw1, hgm]; exact rfl), ?_⟩ | refine ⟨_, pickT rfl, ?_⟩ | refine ⟨_, rfl, ?_⟩ | refine iteP_true rfl ?_ | refine iteP_false rfl ?_ | refine iteP_true ‹_› ?_ | refine iteP_false ‹_› ?_ | refine andK ?_ | refine andA ?_ | refine andT ?_); conv => whnf))
          (refine ⟨_, hAf, ?_⟩; conv => whnf)
          repeat (first | ((first | refine opt_some (getC_rows rfl rfl (by omega)) ?_ | refine opt_some (by dsimp only; exact getC_lent rfl rfl (by omega)) ?_ | refine opt_some rfl ?_ | refine ⟨_, (by simp only [nf, nl, nm, en, ints, setC_setC, Nat.reduceAdd, Nat.reduceMul, hw1, hgm, hga, hwa]; exact rfl), ?_⟩ | refine ⟨_, pickT rfl, ?_⟩ | refine ⟨_, rfl, ?_⟩ | refine iteP_true rfl ?_ | refine iteP_false rfl ?_ | refine iteP_true ‹_› ?_ | refine iteP_false ‹_› ?_ | refine andK ?_ | refine andA ?_ | refine andT ?_); conv => whnf))
          refine ⟨_, ?_, c + 1, hcl, ?_, rfl⟩
          · omega
          · rw [wrap_succ (by omega)]
            rfl
      · have hce : c = ms.length := by have := leF he; omega
        subst hce
        repeat (first | ((first | refine opt_some (getC_rows rfl rfl (by omega)) ?_ | refine opt_some (by dsimp only; exact getC_lent rfl rfl (by omega)) ?_ | refine opt_some rfl ?_ | refine ⟨_, (by simp only [nf, nl, nm, en, ints, setC_setC, Nat.reduceAdd, Nat.reduceMul]; exact rfl), ?_⟩ | refine ⟨_, pickT rfl, ?_⟩ | refine ⟨_, rfl, ?_⟩ | refine iteP_true rfl ?_ | refine iteP_false rfl ?_ | refine iteP_true ‹_› ?_ | refine iteP_false ‹_› ?_ | refine andK ?_ | refine andA ?_ | refine andT ?_); conv => whnf))
        refine iteP_intro (fun hf => ?_) (fun hf => ?_) <;> (conv => whnf)
        · have hgt : 1000000000000000 < smN (trmN ms (m - 1) q) ms.length := by have := leT hf; omega
          have htv : tlN ms m q = 1000000000000001 := by omega
          repeat (first | ((first | refine opt_some (getC_rows rfl rfl (by omega)) ?_ | refine opt_some (by dsimp only; exact getC_lent rfl rfl (by omega)) ?_ | refine opt_some rfl ?_ | refine ⟨_, (by simp only [nf, nl, nm, en, ints, setC_setC, Nat.reduceAdd, Nat.reduceMul]; exact rfl), ?_⟩ | refine ⟨_, pickT rfl, ?_⟩ | refine ⟨_, rfl, ?_⟩ | refine iteP_true rfl ?_ | refine iteP_false rfl ?_ | refine iteP_true ‹_› ?_ | refine iteP_false ‹_› ?_ | refine andK ?_ | refine andA ?_ | refine andT ?_); conv => whnf))
          refine ⟨_, ?_, q + 1, hq', ?_, rfl⟩
          · omega
          · rw [wrap_succ (by omega), hsn, hql, htv]
            rfl
        · have hgt : ¬ 1000000000000000 < smN (trmN ms (m - 1) q) ms.length := by have := leF hf; omega
          have htv : tlN ms m q = smN (trmN ms (m - 1) q) ms.length := by omega
          repeat (first | ((first | refine opt_some (getC_rows rfl rfl (by omega)) ?_ | refine opt_some (by dsimp only; exact getC_lent rfl rfl (by omega)) ?_ | refine opt_some rfl ?_ | refine ⟨_, (by simp only [nf, nl, nm, en, ints, setC_setC, Nat.reduceAdd, Nat.reduceMul]; exact rfl), ?_⟩ | refine ⟨_, pickT rfl, ?_⟩ | refine ⟨_, rfl, ?_⟩ | refine iteP_true rfl ?_ | refine iteP_false rfl ?_ | refine iteP_true ‹_› ?_ | refine iteP_false ‹_› ?_ | refine andK ?_ | refine andA ?_ | refine andT ?_); conv => whnf))
          refine ⟨_, ?_, q + 1, hq', ?_, rfl⟩
          · omega
          · rw [wrap_succ (by omega), hsn, hql, htv]
            rfl
    · have hqe : q = i := by have := leF hd; omega
      subst hqe
      have hrow : natI ((List.range q).map (tlN ms m)) = tailR ms m := by unfold tailR; rw [hz]
      have hsn : Cell.sl false 1 (m + 1) ((tails ms m).map ints ++ [ints (tailR ms m)]) = .sl false 1 (m + 1) ((tails ms (m + 1)).map ints) := by
        rw [tails_snoc, List.map_append]
        rfl
      rw [hrow]
      repeat (first | ((first | refine opt_some (getC_rows rfl rfl (by omega)) ?_ | refine opt_some (by dsimp only; exact getC_lent rfl rfl (by omega)) ?_ | refine opt_some rfl ?_ | refine ⟨_, (by simp only [nf, nl, nm, en, ints, setC_setC, Nat.reduceAdd, Nat.reduceMul]; exact rfl), ?_⟩ | refine ⟨_, pickT rfl, ?_⟩ | refine ⟨_, rfl, ?_⟩ | refine iteP_true rfl ?_ | refine iteP_false rfl ?_ | refine iteP_true ‹_› ?_ | refine iteP_false ‹_› ?_ | refine andK ?_ | refine andA ?_ | refine andT ?_); conv => whnf))
      refine ⟨_, ?_, m + 1, by omega, by omega, ?_, rfl⟩
      · omega
      · rw [wrap_succ (by omega), ← hsn]
        rfl
  · have hme : m = n + 1 := by have := leF hc; omega
    rw [hme] at hml ⊢
    rw [hml]
    repeat' (first | ((first | refine opt_some (getC_rows rfl rfl (by omega)) ?_ | refine opt_some (by dsimp only; exact getC_lent rfl rfl (by omega)) ?_ | refine opt_some rfl ?_ | refine ⟨_, (by simp only [nf, nl, nm, en, ints, setC_setC, Nat.reduceAdd, Nat.reduceMul]; exact rfl), ?_⟩ | refine ⟨_, pickT rfl, ?_⟩ | refine ⟨_, rfl, ?_⟩ | refine iteP_true rfl ?_ | refine iteP_false rfl ?_ | refine iteP_true ‹_› ?_ | refine iteP_false ‹_› ?_ | refine andK ?_ | refine andA ?_ | refine andT ?_); conv => whnf) | (refine iteP_intro (fun hb => ?_) (fun hb => ?_) <;> (conv => whnf)))
    rfl
end Go.Proofs.YtihdeagknggeiaaDoor
