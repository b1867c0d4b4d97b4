import Derived.Test.YtihdeagknggeiaaDoorFc
set_option autoImplicit false
set_option linter.unusedSimpArgs false
set_option linter.unusedVariables false
namespace Go.Proofs.YtihdeagknggeiaaDoor
open Go.Den
set_option maxHeartbeats 16000000 in
set_option maxRecDepth 100000 in
theorem length_ret (xs : List Int) : Ret Tryd.prog G0 55 [⟨.ro, .one (ints xs)⟩] ⟨.one (i64 xs.length), []⟩ := by
  (refine ret_of_den (E := en 5 [] (fun _ => []) (fun _ => [])) tt_ok mixed Tryd.func55 rfl rfl rfl rfl ?_; refine ⟨by simp, ?_⟩)
  repeat' (first | ((first | refine opt_some (getC_rows rfl rfl (by omega)) ?_ | refine opt_some (by dsimp only; exact getC_lent rfl rfl (by omega)) ?_ | refine opt_some rfl ?_ | refine ⟨_, (by simp only [nf, nl, nm, en, ints, setC_setC, Nat.reduceAdd, Nat.reduceMul]; exact rfl), ?_⟩ | refine ⟨_, pickT rfl, ?_⟩ | refine ⟨_, rfl, ?_⟩ | refine iteP_true rfl ?_ | refine iteP_false rfl ?_ | refine iteP_true ‹_› ?_ | refine iteP_false ‹_› ?_ | refine andK ?_ | refine andA ?_ | refine andT ?_); conv => whnf) | (refine iteP_intro (fun hb => ?_) (fun hb => ?_) <;> (conv => whnf)))
  rfl
set_option maxHeartbeats 16000000 in
set_option maxRecDepth 100000 in
theorem has_ret (m i : Nat) (hm : m < 2 ^ 63) (hi : i < 64) : Ret Tryd.prog G0 65 [⟨.ro, .one (i64 m)⟩, ⟨.ro, .one (i64 i)⟩] ⟨.one (.c (.bool (m.testBit i))), []⟩ := by
  (refine ret_of_den (E := en 10 [] (fun _ => []) (fun _ => [])) tt_ok mixed Tryd.func65 rfl rfl rfl rfl ?_; refine ⟨by simp, ?_⟩)
  repeat' (first | ((first | refine opt_some (getC_rows rfl rfl (by omega)) ?_ | refine opt_some (by dsimp only; exact getC_lent rfl rfl (by omega)) ?_ | refine opt_some rfl ?_ | refine ⟨_, (by simp only [nf, nl, nm, en, ints, setC_setC, Nat.reduceAdd, Nat.reduceMul]; exact rfl), ?_⟩ | refine ⟨_, pickT rfl, ?_⟩ | refine ⟨_, rfl, ?_⟩ | refine iteP_true rfl ?_ | refine iteP_false rfl ?_ | refine iteP_true ‹_› ?_ | refine iteP_false ‹_› ?_ | refine andK ?_ | refine andA ?_ | refine andT ?_); conv => whnf) | (refine iteP_intro (fun hb => ?_) (fun hb => ?_) <;> (conv => whnf)))
  refine endB ?_
  rw [show min (i : Int).toNat IntKind.i64.bits = i by rw [Int.toNat_natCast]; exact Nat.min_eq_left (Nat.le_of_lt hi), fdiv_pow, bit_i64 hm]
set_option maxHeartbeats 16000000 in
set_option maxRecDepth 100000 in
theorem l01Bit_ret (m i : Nat) (hm : m < 2 ^ 63) (hi : i < 64) : Ret Tryd.prog G0 52 [⟨.ro, .one (i64 m)⟩, ⟨.ro, .one (i64 i)⟩] ⟨.one (.c (.bool (m.testBit i))), []⟩ := by
  (refine ret_of_den (E := en 11 [] (fun _ => []) (fun _ => [])) tt_ok mixed Tryd.func52 rfl rfl rfl rfl ?_; refine ⟨by simp, ?_⟩)
  have hw : IntKind.u64.wrap (i : Int) = i := wrap_u64 (by omega) (by omega)
  repeat' (first | ((first | refine opt_some (getC_rows rfl rfl (by omega)) ?_ | refine opt_some (by dsimp only; exact getC_lent rfl rfl (by omega)) ?_ | refine opt_some rfl ?_ | refine ⟨_, (by simp only [nf, nl, nm, en, ints, setC_setC, Nat.reduceAdd, Nat.reduceMul, hw]; exact rfl), ?_⟩ | refine ⟨_, pickT rfl, ?_⟩ | refine ⟨_, rfl, ?_⟩ | refine iteP_true rfl ?_ | refine iteP_false rfl ?_ | refine iteP_true ‹_› ?_ | refine iteP_false ‹_› ?_ | refine andK ?_ | refine andA ?_ | refine andT ?_); conv => whnf) | (refine iteP_intro (fun hb => ?_) (fun hb => ?_) <;> (conv => whnf)))
  refine endB ?_
  rw [show min (i : Int).toNat IntKind.i64.bits = i by rw [Int.toNat_natCast]; exact Nat.min_eq_left (Nat.le_of_lt hi), fdiv_pow, bit_i64 hm]
set_option maxHeartbeats 16000000 in
set_option maxRecDepth 100000 in
theorem ctz_ret (x : Nat) (hx : x < 2 ^ 64) : Ret Tryd.prog G0 130 [⟨.ro, .one (.c (.int .u64 x))⟩] ⟨.one (i64 (Lib.ctz 64 x)), []⟩ := by
  (refine ret_of_den (E := en 14 [] (fun _ => []) (fun _ => [])) tt_ok mixed Tryd.func130 rfl rfl rfl rfl ?_; refine ⟨by simp, ?_⟩)
  repeat' (first | ((first | refine opt_some (getC_rows rfl rfl (by omega)) ?_ | refine opt_some (by dsimp only; exact getC_lent rfl rfl (by omega)) ?_ | refine opt_some rfl ?_ | refine ⟨_, (by simp only [nf, nl, nm, en, ints, setC_setC, Nat.reduceAdd, Nat.reduceMul]; exact rfl), ?_⟩ | refine ⟨_, pickT rfl, ?_⟩ | refine ⟨_, rfl, ?_⟩ | refine iteP_true rfl ?_ | refine iteP_false rfl ?_ | refine iteP_true ‹_› ?_ | refine iteP_false ‹_› ?_ | refine andK ?_ | refine andA ?_ | refine andT ?_); conv => whnf) | (refine iteP_intro (fun hb => ?_) (fun hb => ?_) <;> (conv => whnf)))
  · have : x = 0 := by have := eqT hb; omega
    subst this
    rfl
  · have h0 : x ≠ 0 := by have := eqF hb; omega
    obtain ⟨hl, hk⟩ := Lib.lowest_bit 64 x h0 hx
    obtain ⟨hd1, hd2⟩ := Lib.deBruijn64_at _ hk
    generalize hq : 2 ^ Lib.ctz 64 x * 285870213051353865 % 18446744073709551616 / 288230376151711744 = q at hd1 hd2
    have e1 : IntKind.u64.wrap (0 - (x : Int)) = ((2 ^ 64 - x : Nat) : Int) := by rw [wrap_u64_mod]; omega
    have e2 := and_u64 (a := x) (b := 2 ^ 64 - x) hx (by omega)
    have e3 : (IntKind.u64.wrap (((2 ^ Lib.ctz 64 x : Nat) : Int) * 285870213051353865)).fdiv (2 ^ min (58 : Int).toNat IntKind.u64.bits) = (q : Int) := by
      rw [wrap_u64_mod, ← hq]
      have : (((2 ^ Lib.ctz 64 x : Nat) : Int) * 285870213051353865 % 18446744073709551616) = ((2 ^ Lib.ctz 64 x * 285870213051353865 % 18446744073709551616 : Nat) : Int) := by omega
      rw [this, show min (58 : Int).toNat IntKind.u64.bits = 58 by decide, fdiv_pow]
    rw [e1, e2, hl, e3]
    have t2 : (q : Int) < 64 := Int.ofNat_lt.2 hd1
    have t3 : (q : Int).toNat * 1 ≤ (List.map Cell.c (Lib.deBruijn64tab.map fun n : Nat => Value.int .u8 (n : Int))).length := by
      rw [Int.toNat_natCast, Nat.mul_one, List.length_map, List.length_map]
      exact Nat.le_of_lt hd1
    clear hq
    refine ⟨⟨Int.natCast_nonneg q, t2, t3⟩, ?_⟩
    conv => whnf
    repeat' (first | ((first | refine opt_some (getC_rows rfl rfl (by omega)) ?_ | refine opt_some (by dsimp only; exact getC_lent rfl rfl (by omega)) ?_ | refine opt_some rfl ?_ | refine ⟨_, (by simp only [nf, nl, nm, en, ints, setC_setC, Nat.reduceAdd, Nat.reduceMul]; exact rfl), ?_⟩ | refine ⟨_, pickT rfl, ?_⟩ | refine ⟨_, rfl, ?_⟩ | refine iteP_true rfl ?_ | refine iteP_false rfl ?_ | refine iteP_true ‹_› ?_ | refine iteP_false ‹_› ?_ | refine andK ?_ | refine andA ?_ | refine andT ?_); conv => whnf) | (refine iteP_intro (fun hb => ?_) (fun hb => ?_) <;> (conv => whnf)))
    have hql : q < Lib.deBruijn64tab.length := by simpa [Lib.deBruijn64tab] using hd1
    have hp : pickN 1 (List.drop ((q : Int).toNat * 1) (List.map Cell.c (Lib.deBruijn64tab.map fun n : Nat => Value.int .u8 (n : Int)))) = some [.c (.int .u8 ((Lib.ctz 64 x : Nat) : Int))] := by
      rw [List.map_map, Int.toNat_natCast, Nat.mul_one]
      refine pick_one ?_
      rw [List.getElem?_map, List.getElem?_eq_getElem hql]
      rw [List.getD_eq_getElem?_getD, List.getElem?_eq_getElem hql, Option.getD_some] at hd2
      rw [hd2]
      rfl
    refine ⟨_, hp, ?_⟩
    conv => whnf
    repeat' (first | ((first | refine opt_some (getC_rows rfl rfl (by omega)) ?_ | refine opt_some (by dsimp only; exact getC_lent rfl rfl (by omega)) ?_ | refine opt_some rfl ?_ | refine ⟨_, (by simp only [nf, nl, nm, en, ints, setC_setC, Nat.reduceAdd, Nat.reduceMul]; exact rfl), ?_⟩ | refine ⟨_, pickT rfl, ?_⟩ | refine ⟨_, rfl, ?_⟩ | refine iteP_true rfl ?_ | refine iteP_false rfl ?_ | refine iteP_true ‹_› ?_ | refine iteP_false ‹_› ?_ | refine andK ?_ | refine andA ?_ | refine andT ?_); conv => whnf) | (refine iteP_intro (fun hb => ?_) (fun hb => ?_) <;> (conv => whnf)))
    refine endI ?_
    exact wrap_nat (by omega)
set_option maxHeartbeats 16000000 in
set_option maxRecDepth 100000 in
theorem least_ret (m : Nat) (hm : m < 2 ^ 63) : Ret Tryd.prog G0 95 [⟨.ro, .one (i64 m)⟩] ⟨.one (i64 (Lib.ctz 64 m)), []⟩ := by
  (refine ret_of_den (E := en 6 [] (fun _ => []) (fun _ => [])) tt_ok mixed Tryd.func95 rfl rfl rfl rfl ?_; refine ⟨by simp, ?_⟩)
  have hw : IntKind.u64.wrap (m : Int) = m := wrap_u64 (by omega) (by omega)
  repeat' (first | ((first | refine opt_some (getC_rows rfl rfl (by omega)) ?_ | refine opt_some (by dsimp only; exact getC_lent rfl rfl (by omega)) ?_ | refine opt_some rfl ?_ | refine ⟨_, (by simp only [nf, nl, nm, en, ints, setC_setC, Nat.reduceAdd, Nat.reduceMul, hw]; exact rfl), ?_⟩ | refine ⟨_, pickT rfl, ?_⟩ | refine ⟨_, rfl, ?_⟩ | refine iteP_true rfl ?_ | refine iteP_false rfl ?_ | refine iteP_true ‹_› ?_ | refine iteP_false ‹_› ?_ | refine andK ?_ | refine andA ?_ | refine andT ?_); conv => whnf) | (refine iteP_intro (fun hb => ?_) (fun hb => ?_) <;> (conv => whnf)))
  (refine ⟨_, ctz_ret m (by omega), ?_⟩; conv => whnf)
  repeat' (first | ((first | refine opt_some (getC_rows rfl rfl (by omega)) ?_ | refine opt_some (by dsimp only; exact getC_lent rfl rfl (by omega)) ?_ | refine opt_some rfl ?_ | refine ⟨_, (by simp only [nf, nl, nm, en, ints, setC_setC, Nat.reduceAdd, Nat.reduceMul]; exact rfl), ?_⟩ | refine ⟨_, pickT rfl, ?_⟩ | refine ⟨_, rfl, ?_⟩ | refine iteP_true rfl ?_ | refine iteP_false rfl ?_ | refine iteP_true ‹_› ?_ | refine iteP_false ‹_› ?_ | refine andK ?_ | refine andA ?_ | refine andT ?_); conv => whnf) | (refine iteP_intro (fun hb => ?_) (fun hb => ?_) <;> (conv => whnf)))
  rfl
set_option maxHeartbeats 16000000 in
set_option maxRecDepth 100000 in
theorem members_ret (m : Nat) (hm : m < 2 ^ 63) : Ret Tryd.prog G0 105 [⟨.ro, .one (i64 m)⟩] ⟨.one (ints ((mems m).map fun j : Nat => (j : Int))), []⟩ := by
  (refine ret_of_den (E := en 17 [] (fun _ => [(3, 0), (0, 0)]) (fun _ => [])) tt_ok mixed Tryd.func105 rfl rfl rfl rfl ?_; refine ⟨by simp, ?_⟩)
  repeat' (first | ((first | refine opt_some (getC_rows rfl rfl (by omega)) ?_ | refine opt_some (by dsimp only; exact getC_lent rfl rfl (by omega)) ?_ | refine opt_some rfl ?_ | refine ⟨_, (by simp only [nf, nl, nm, en, ints, setC_setC, Nat.reduceAdd, Nat.reduceMul]; exact rfl), ?_⟩ | refine ⟨_, pickT rfl, ?_⟩ | refine ⟨_, rfl, ?_⟩ | refine iteP_true rfl ?_ | refine iteP_false rfl ?_ | refine iteP_true ‹_› ?_ | refine iteP_false ‹_› ?_ | refine andK ?_ | refine andA ?_ | refine andT ?_); conv => whnf) | (refine iteP_intro (fun hb => ?_) (fun hb => ?_) <;> (conv => whnf)))
  refine ⟨fun k vs => ∃ (c : Nat) (out : List Int), c < 2 ^ 63 ∧ out ++ (mems c).map (fun j : Nat => (j : Int)) = (mems m).map (fun j : Nat => (j : Int)) ∧ vs = [.one (ints out), .one (i64 c)] ∧ k = c, rfl, ⟨_, m, [], hm, rfl, rfl, rfl⟩, ?_⟩
  rintro k vs ⟨c, out, hc, ho, rfl, hkc⟩
  have hol : out.length ≤ 64 := by
    have := congrArg List.length ho
    have h2 : (mems m).length ≤ 64 := by have := List.length_filter_le m.testBit (List.range 64); simpa [mems] using this
    simp at this
    omega
  repeat' (first | ((first | refine opt_some (getC_rows rfl rfl (by omega)) ?_ | refine opt_some (by dsimp only; exact getC_lent rfl rfl (by omega)) ?_ | refine opt_some rfl ?_ | refine ⟨_, (by simp only [nf, nl, nm, en, ints, setC_setC, Nat.reduceAdd, Nat.reduceMul]; exact rfl), ?_⟩ | refine ⟨_, pickT rfl, ?_⟩ | refine ⟨_, rfl, ?_⟩ | refine iteP_true rfl ?_ | refine iteP_false rfl ?_ | refine iteP_true ‹_› ?_ | refine iteP_false ‹_› ?_ | refine andK ?_ | refine andA ?_ | refine andT ?_); conv => whnf) | (refine iteP_intro (fun hb => ?_) (fun hb => ?_) <;> (conv => whnf)))
  · have h0 : c ≠ 0 := by have := neT hb; omega
    (refine ⟨_, least_ret c hc, ?_⟩; conv => whnf)
    repeat' (first | ((first | refine opt_some (getC_rows rfl rfl (by omega)) ?_ | refine opt_some (by dsimp only; exact getC_lent rfl rfl (by omega)) ?_ | refine opt_some rfl ?_ | refine ⟨_, (by simp only [nf, nl, nm, en, ints, setC_setC, Nat.reduceAdd, Nat.reduceMul]; exact rfl), ?_⟩ | refine ⟨_, pickT rfl, ?_⟩ | refine ⟨_, rfl, ?_⟩ | refine iteP_true rfl ?_ | refine iteP_false rfl ?_ | refine iteP_true ‹_› ?_ | refine iteP_false ‹_› ?_ | refine andK ?_ | refine andA ?_ | refine andT ?_); conv => whnf) | (refine iteP_intro (fun hb => ?_) (fun hb => ?_) <;> (conv => whnf)))
    have e1 : IntKind.i64.wrap ((c : Int) - 1) = ((c - 1 : Nat) : Int) := by rw [wrap_i64 (by omega) (by omega)]; omega
    have e2 := and_i64 (a := c) (b := c - 1) hc
    have h3 : c &&& (c - 1) ≤ c - 1 := Nat.and_le_right
    rw [mems_step h0 (by omega)] at ho
    refine ⟨c &&& (c - 1), by rw [hkc]; omega, c &&& (c - 1), out ++ [((Lib.ctz 64 c : Nat) : Int)], by omega, by rw [← ho]; simp, ?_, rfl⟩
    rw [e1, e2, ints_snoc]
    rfl
  · have h0 : c = 0 := by have := neF hb; omega
    subst h0
    rw [show mems 0 = [] from by simp [mems], List.map_nil, List.append_nil] at ho
    rw [ho]
    rfl
end Go.Proofs.YtihdeagknggeiaaDoor
