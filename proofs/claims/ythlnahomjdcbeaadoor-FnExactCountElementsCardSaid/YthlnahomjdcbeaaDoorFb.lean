import Derived.Test.YthlnahomjdcbeaaDoorFa
set_option autoImplicit false
set_option linter.unusedSimpArgs false
set_option linter.unusedVariables false
namespace Go.Proofs.YthlnahomjdcbeaaDoor
open Go.Den
set_option maxHeartbeats 4000000 in
set_option maxRecDepth 100000 in
theorem toAlpha_ret (ds : List Int) (n : Int) (hx : ds.length ≤ 2 ^ 20) : Ret Tryd.prog G0 10 [⟨.ro, .agg [i64 n, ints ds]⟩] ⟨.agg [i64 n, ints ds], []⟩ := by
  (refine ret_of_den (E := en 12 [] (fun _ => [])) tt_ok mixed Tryd.func10 rfl rfl rfl rfl ?_; refine ⟨by simp, ?_⟩)
  repeat' (first | (refine opt_some (getC_rows rfl rfl (by omega)) ?_; conv => whnf) | (refine opt_some rfl ?_; conv => whnf) | (refine ⟨_, (by simp only [nf, nl, nm, en, ints, Nat.reduceAdd, Nat.reduceMul]; exact rfl), ?_⟩; conv => whnf) | (refine ⟨_, pick_at rfl (by first | exact Nat.le_of_ble_eq_true rfl | rfl | exact plain_i64 _ | exact plain_ints _ | exact all_ints _ | omega | (dsimp only; omega) | (simp; done) | (simp only [htf] at *; first | omega | (simp; omega))), ?_⟩; conv => whnf) | (refine ⟨_, rfl, ?_⟩; conv => whnf) | (first | refine iteP_true rfl ?_ | refine iteP_false rfl ?_ | refine iteP_true ‹_› ?_ | refine iteP_false ‹_› ?_; conv => whnf) | (refine And.intro (by kernel_rfl : indep _ _ = true) ?_; conv => whnf) | (refine And.intro (by rfl : List.all _ _ = true) ?_; conv => whnf) | (refine And.intro (by first | exact Nat.le_of_ble_eq_true rfl | rfl | exact plain_i64 _ | exact plain_ints _ | exact all_ints _ | omega | (dsimp only; omega) | (simp; done) | (simp only [htf] at *; first | omega | (simp; omega))) ?_; conv => whnf) | (refine iteP_intro (fun hb => ?_) (fun hb => ?_) <;> (conv => whnf)))
  (refine ⟨_, toInt_ret ds hx, ?_⟩; conv => whnf)
  repeat' (first | (refine opt_some (getC_rows rfl rfl (by omega)) ?_; conv => whnf) | (refine opt_some rfl ?_; conv => whnf) | (refine ⟨_, (by simp only [nf, nl, nm, en, ints, Nat.reduceAdd, Nat.reduceMul]; exact rfl), ?_⟩; conv => whnf) | (refine ⟨_, pick_at rfl (by first | exact Nat.le_of_ble_eq_true rfl | rfl | exact plain_i64 _ | exact plain_ints _ | exact all_ints _ | omega | (dsimp only; omega) | (simp; done) | (simp only [htf] at *; first | omega | (simp; omega))), ?_⟩; conv => whnf) | (refine ⟨_, rfl, ?_⟩; conv => whnf) | (first | refine iteP_true rfl ?_ | refine iteP_false rfl ?_ | refine iteP_true ‹_› ?_ | refine iteP_false ‹_› ?_; conv => whnf) | (refine And.intro (by kernel_rfl : indep _ _ = true) ?_; conv => whnf) | (refine And.intro (by rfl : List.all _ _ = true) ?_; conv => whnf) | (refine And.intro (by first | exact Nat.le_of_ble_eq_true rfl | rfl | exact plain_i64 _ | exact plain_ints _ | exact all_ints _ | omega | (dsimp only; omega) | (simp; done) | (simp only [htf] at *; first | omega | (simp; omega))) ?_; conv => whnf) | (refine iteP_intro (fun hb => ?_) (fun hb => ?_) <;> (conv => whnf)))
  rfl
set_option maxHeartbeats 4000000 in
set_option maxRecDepth 100000 in
theorem eqAlpha_ret (ds : List Int) (n : Int) (hx : ds.length < 2 ^ 62) : Ret Tryd.prog G0 13 [⟨.ro, .agg [i64 n, ints ds]⟩, ⟨.ro, .agg [i64 n, ints ds]⟩] ⟨.one (.c (.bool true)), []⟩ := by
  (refine ret_of_den (E := en 16 [] (fun _ => [])) tt_ok mixed Tryd.func13 rfl rfl rfl rfl ?_; refine ⟨by simp, ?_⟩)
  have h1 : (n != n) = false := by simp
  have h2 : decide (ds = ds) = true := by simp
  repeat' (first | (refine opt_some (getC_rows rfl rfl (by omega)) ?_; conv => whnf) | (refine opt_some rfl ?_; conv => whnf) | (refine ⟨_, (by simp only [nf, nl, nm, en, ints, Nat.reduceAdd, Nat.reduceMul]; exact rfl), ?_⟩; conv => whnf) | (refine ⟨_, pick_at rfl (by first | exact Nat.le_of_ble_eq_true rfl | rfl | exact plain_i64 _ | exact plain_ints _ | exact all_ints _ | omega | (dsimp only; omega) | (simp; done) | (simp only [htf] at *; first | omega | (simp; omega))), ?_⟩; conv => whnf) | (refine ⟨_, rfl, ?_⟩; conv => whnf) | (first | refine iteP_true rfl ?_ | refine iteP_false rfl ?_ | refine iteP_true ‹_› ?_ | refine iteP_false ‹_› ?_; conv => whnf) | (refine And.intro (by kernel_rfl : indep _ _ = true) ?_; conv => whnf) | (refine And.intro (by rfl : List.all _ _ = true) ?_; conv => whnf) | (refine And.intro (by first | exact Nat.le_of_ble_eq_true rfl | rfl | exact plain_i64 _ | exact plain_ints _ | exact all_ints _ | omega | (dsimp only; omega) | (simp; done) | (simp only [htf] at *; first | omega | (simp; omega))) ?_; conv => whnf) | (refine iteP_intro (fun hb => ?_) (fun hb => ?_) <;> (conv => whnf)))
  (refine ⟨_, eq_ret ds ds hx, ?_⟩; conv => whnf)
  repeat' (first | (refine opt_some (getC_rows rfl rfl (by omega)) ?_; conv => whnf) | (refine opt_some rfl ?_; conv => whnf) | (refine ⟨_, (by simp only [nf, nl, nm, en, ints, Nat.reduceAdd, Nat.reduceMul]; exact rfl), ?_⟩; conv => whnf) | (refine ⟨_, pick_at rfl (by first | exact Nat.le_of_ble_eq_true rfl | rfl | exact plain_i64 _ | exact plain_ints _ | exact all_ints _ | omega | (dsimp only; omega) | (simp; done) | (simp only [htf] at *; first | omega | (simp; omega))), ?_⟩; conv => whnf) | (refine ⟨_, rfl, ?_⟩; conv => whnf) | (first | refine iteP_true rfl ?_ | refine iteP_false rfl ?_ | refine iteP_true ‹_› ?_ | refine iteP_false ‹_› ?_; conv => whnf) | (refine And.intro (by kernel_rfl : indep _ _ = true) ?_; conv => whnf) | (refine And.intro (by rfl : List.all _ _ = true) ?_; conv => whnf) | (refine And.intro (by first | exact Nat.le_of_ble_eq_true rfl | rfl | exact plain_i64 _ | exact plain_ints _ | exact all_ints _ | omega | (dsimp only; omega) | (simp; done) | (simp only [htf] at *; first | omega | (simp; omega))) ?_; conv => whnf) | (refine iteP_intro (fun hb => ?_) (fun hb => ?_) <;> (conv => whnf)))
  rfl
set_option maxHeartbeats 4000000 in
set_option maxRecDepth 100000 in
theorem length_ret (xs : List Int) : Ret Tryd.prog G0 56 [⟨.ro, .one (ints xs)⟩] ⟨.one (i64 xs.length), []⟩ := by
  (refine ret_of_den (E := en 5 [] (fun _ => [])) tt_ok mixed Tryd.func56 rfl rfl rfl rfl ?_; refine ⟨by simp, ?_⟩)
  repeat' (first | (refine opt_some (getC_rows rfl rfl (by omega)) ?_; conv => whnf) | (refine opt_some rfl ?_; conv => whnf) | (refine ⟨_, (by simp only [nf, nl, nm, en, ints, Nat.reduceAdd, Nat.reduceMul]; exact rfl), ?_⟩; conv => whnf) | (refine ⟨_, pick_at rfl (by first | exact Nat.le_of_ble_eq_true rfl | rfl | exact plain_i64 _ | exact plain_ints _ | exact all_ints _ | omega | (dsimp only; omega) | (simp; done) | (simp only [htf] at *; first | omega | (simp; omega))), ?_⟩; conv => whnf) | (refine ⟨_, rfl, ?_⟩; conv => whnf) | (first | refine iteP_true rfl ?_ | refine iteP_false rfl ?_ | refine iteP_true ‹_› ?_ | refine iteP_false ‹_› ?_; conv => whnf) | (refine And.intro (by kernel_rfl : indep _ _ = true) ?_; conv => whnf) | (refine And.intro (by rfl : List.all _ _ = true) ?_; conv => whnf) | (refine And.intro (by first | exact Nat.le_of_ble_eq_true rfl | rfl | exact plain_i64 _ | exact plain_ints _ | exact all_ints _ | omega | (dsimp only; omega) | (simp; done) | (simp only [htf] at *; first | omega | (simp; omega))) ?_; conv => whnf) | (refine iteP_intro (fun hb => ?_) (fun hb => ?_) <;> (conv => whnf)))
  rfl
set_option maxHeartbeats 4000000 in
set_option maxRecDepth 100000 in
theorem has_ret (m i : Nat) (hm : m < 2 ^ 63) (hi : i < 64) : Ret Tryd.prog G0 59 [⟨.ro, .one (i64 m)⟩, ⟨.ro, .one (i64 i)⟩] ⟨.one (.c (.bool (m.testBit i))), []⟩ := by
  (refine ret_of_den (E := en 10 [] (fun _ => [])) tt_ok mixed Tryd.func59 rfl rfl rfl rfl ?_; refine ⟨by simp, ?_⟩)
  repeat' (first | (refine opt_some (getC_rows rfl rfl (by omega)) ?_; conv => whnf) | (refine opt_some rfl ?_; conv => whnf) | (refine ⟨_, (by simp only [nf, nl, nm, en, ints, Nat.reduceAdd, Nat.reduceMul]; exact rfl), ?_⟩; conv => whnf) | (refine ⟨_, pick_at rfl (by first | exact Nat.le_of_ble_eq_true rfl | rfl | exact plain_i64 _ | exact plain_ints _ | exact all_ints _ | omega | (dsimp only; omega) | (simp; done) | (simp only [htf] at *; first | omega | (simp; omega))), ?_⟩; conv => whnf) | (refine ⟨_, rfl, ?_⟩; conv => whnf) | (first | refine iteP_true rfl ?_ | refine iteP_false rfl ?_ | refine iteP_true ‹_› ?_ | refine iteP_false ‹_› ?_; conv => whnf) | (refine And.intro (by kernel_rfl : indep _ _ = true) ?_; conv => whnf) | (refine And.intro (by rfl : List.all _ _ = true) ?_; conv => whnf) | (refine And.intro (by first | exact Nat.le_of_ble_eq_true rfl | rfl | exact plain_i64 _ | exact plain_ints _ | exact all_ints _ | omega | (dsimp only; omega) | (simp; done) | (simp only [htf] at *; first | omega | (simp; omega))) ?_; conv => whnf) | (refine iteP_intro (fun hb => ?_) (fun hb => ?_) <;> (conv => whnf)))
  refine endB ?_
  rw [show min (i : Int).toNat IntKind.i64.bits = i by rw [Int.toNat_natCast]; exact Nat.min_eq_left (Nat.le_of_lt hi), fdiv_pow, bit_i64 hm]
set_option maxHeartbeats 4000000 in
set_option maxRecDepth 100000 in
theorem l01Bit_ret (m i : Nat) (hm : m < 2 ^ 63) (hi : i < 64) : Ret Tryd.prog G0 68 [⟨.ro, .one (i64 m)⟩, ⟨.ro, .one (i64 i)⟩] ⟨.one (.c (.bool (m.testBit i))), []⟩ := by
  (refine ret_of_den (E := en 11 [] (fun _ => [])) tt_ok mixed Tryd.func68 rfl rfl rfl rfl ?_; refine ⟨by simp, ?_⟩)
  have hw : IntKind.u64.wrap (i : Int) = i := wrap_u64 (by omega) (by omega)
  repeat' (first | (refine opt_some (getC_rows rfl rfl (by omega)) ?_; conv => whnf) | (refine opt_some rfl ?_; conv => whnf) | (refine ⟨_, (by simp only [nf, nl, nm, en, ints, Nat.reduceAdd, Nat.reduceMul, hw]; exact rfl), ?_⟩; conv => whnf) | (refine ⟨_, pick_at rfl (by first | exact Nat.le_of_ble_eq_true rfl | rfl | exact plain_i64 _ | exact plain_ints _ | exact all_ints _ | omega | (dsimp only; omega) | (simp; done) | (simp only [htf] at *; first | omega | (simp; omega))), ?_⟩; conv => whnf) | (refine ⟨_, rfl, ?_⟩; conv => whnf) | (first | refine iteP_true rfl ?_ | refine iteP_false rfl ?_ | refine iteP_true ‹_› ?_ | refine iteP_false ‹_› ?_; conv => whnf) | (refine And.intro (by kernel_rfl : indep _ _ = true) ?_; conv => whnf) | (refine And.intro (by rfl : List.all _ _ = true) ?_; conv => whnf) | (refine And.intro (by first | exact Nat.le_of_ble_eq_true rfl | rfl | exact plain_i64 _ | exact plain_ints _ | exact all_ints _ | omega | (dsimp only; omega) | (simp; done) | (simp only [htf] at *; first | omega | (simp; omega))) ?_; conv => whnf) | (refine iteP_intro (fun hb => ?_) (fun hb => ?_) <;> (conv => whnf)))
  refine endB ?_
  rw [show min (i : Int).toNat IntKind.i64.bits = i by rw [Int.toNat_natCast]; exact Nat.min_eq_left (Nat.le_of_lt hi), fdiv_pow, bit_i64 hm]
set_option maxHeartbeats 4000000 in
set_option maxRecDepth 100000 in
theorem ctz_ret (x : Nat) (hx : x < 2 ^ 64) : Ret Tryd.prog G0 87 [⟨.ro, .one (.c (.int .u64 x))⟩] ⟨.one (i64 (Lib.ctz 64 x)), []⟩ := by
  (refine ret_of_den (E := en 14 [] (fun _ => [])) tt_ok mixed Tryd.func87 rfl rfl rfl rfl ?_; refine ⟨by simp, ?_⟩)
  repeat' (first | (refine opt_some (getC_rows rfl rfl (by omega)) ?_; conv => whnf) | (refine opt_some rfl ?_; conv => whnf) | (refine ⟨_, (by simp only [nf, nl, nm, en, ints, Nat.reduceAdd, Nat.reduceMul]; exact rfl), ?_⟩; conv => whnf) | (refine ⟨_, pick_at rfl (by first | exact Nat.le_of_ble_eq_true rfl | rfl | exact plain_i64 _ | exact plain_ints _ | exact all_ints _ | omega | (dsimp only; omega) | (simp; done) | (simp only [htf] at *; first | omega | (simp; omega))), ?_⟩; conv => whnf) | (refine ⟨_, rfl, ?_⟩; conv => whnf) | (first | refine iteP_true rfl ?_ | refine iteP_false rfl ?_ | refine iteP_true ‹_› ?_ | refine iteP_false ‹_› ?_; conv => whnf) | (refine And.intro (by kernel_rfl : indep _ _ = true) ?_; conv => whnf) | (refine And.intro (by rfl : List.all _ _ = true) ?_; conv => whnf) | (refine And.intro (by first | exact Nat.le_of_ble_eq_true rfl | rfl | exact plain_i64 _ | exact plain_ints _ | exact all_ints _ | omega | (dsimp only; omega) | (simp; done) | (simp only [htf] at *; first | omega | (simp; omega))) ?_; conv => whnf) | (refine iteP_intro (fun hb => ?_) (fun hb => ?_) <;> (conv => whnf)))
  · have : x = 0 := by have := eqT hb; omega
    subst this
    rfl
  · have h0 : x ≠ 0 := by have := eqF hb; omega
    obtain ⟨hl, hk⟩ := Lib.lowest_bit 64 x h0 hx
    obtain ⟨hd1, hd2⟩ := Lib.deBruijn64_at _ hk
    generalize hq : 2 ^ Lib.ctz 64 x * 285870213051353865 % 18446744073709551616 / 288230376151711744 = q at hd1 hd2
    have e1 : IntKind.u64.wrap (0 - (x : Int)) = ((2 ^ 64 - x : Nat) : Int) := by rw [wrap_u64_mod]; omega
    have e2 := and_u64 (a := x) (b := 2 ^ 64 - x) hx (by omega)
    have e3 : (IntKind.u64.wrap (((2 ^ Lib.ctz 64 x : Nat) : Int) * 285870213051353865)).fdiv (2 ^ min (58 : Int).toNat IntKind.u64.bits) = (q : Int) := by
      rw [wrap_u64_mod, ← hq]
      have : (((2 ^ Lib.ctz 64 x : Nat) : Int) * 285870213051353865 % 18446744073709551616) = ((2 ^ Lib.ctz 64 x * 285870213051353865 % 18446744073709551616 : Nat) : Int) := by omega
      rw [this, show min (58 : Int).toNat IntKind.u64.bits = 58 by decide, fdiv_pow]
    rw [e1, e2, hl, e3]
    have t2 : (q : Int) < 64 := Int.ofNat_lt.2 hd1
    have t3 : (q : Int).toNat * 1 ≤ (List.map Cell.c (Lib.deBruijn64tab.map fun n : Nat => Value.int .u8 (n : Int))).length := by
      rw [Int.toNat_natCast, Nat.mul_one, List.length_map, List.length_map]
      exact Nat.le_of_lt hd1
    clear hq
    refine ⟨⟨Int.natCast_nonneg q, t2, t3⟩, ?_⟩
    conv => whnf
    repeat' (first | (refine opt_some (getC_rows rfl rfl (by omega)) ?_; conv => whnf) | (refine opt_some rfl ?_; conv => whnf) | (refine ⟨_, (by simp only [nf, nl, nm, en, ints, Nat.reduceAdd, Nat.reduceMul]; exact rfl), ?_⟩; conv => whnf) | (refine ⟨_, pick_at rfl (by first | exact Nat.le_of_ble_eq_true rfl | rfl | exact plain_i64 _ | exact plain_ints _ | exact all_ints _ | omega | (dsimp only; omega) | (simp; done) | (simp only [htf] at *; first | omega | (simp; omega))), ?_⟩; conv => whnf) | (refine ⟨_, rfl, ?_⟩; conv => whnf) | (first | refine iteP_true rfl ?_ | refine iteP_false rfl ?_ | refine iteP_true ‹_› ?_ | refine iteP_false ‹_› ?_; conv => whnf) | (refine And.intro (by kernel_rfl : indep _ _ = true) ?_; conv => whnf) | (refine And.intro (by rfl : List.all _ _ = true) ?_; conv => whnf) | (refine And.intro (by first | exact Nat.le_of_ble_eq_true rfl | rfl | exact plain_i64 _ | exact plain_ints _ | exact all_ints _ | omega | (dsimp only; omega) | (simp; done) | (simp only [htf] at *; first | omega | (simp; omega))) ?_; conv => whnf) | (refine iteP_intro (fun hb => ?_) (fun hb => ?_) <;> (conv => whnf)))
    have hql : q < Lib.deBruijn64tab.length := by simpa [Lib.deBruijn64tab] using hd1
    have hp : pickN 1 (List.drop ((q : Int).toNat * 1) (List.map Cell.c (Lib.deBruijn64tab.map fun n : Nat => Value.int .u8 (n : Int)))) = some [.c (.int .u8 ((Lib.ctz 64 x : Nat) : Int))] := by
      rw [List.map_map, Int.toNat_natCast, Nat.mul_one]
      refine pick_one ?_
      rw [List.getElem?_map, List.getElem?_eq_getElem hql]
      rw [List.getD_eq_getElem?_getD, List.getElem?_eq_getElem hql, Option.getD_some] at hd2
      rw [hd2]
      rfl
    refine ⟨_, hp, ?_⟩
    conv => whnf
    repeat' (first | (refine opt_some (getC_rows rfl rfl (by omega)) ?_; conv => whnf) | (refine opt_some rfl ?_; conv => whnf) | (refine ⟨_, (by simp only [nf, nl, nm, en, ints, Nat.reduceAdd, Nat.reduceMul]; exact rfl), ?_⟩; conv => whnf) | (refine ⟨_, pick_at rfl (by first | exact Nat.le_of_ble_eq_true rfl | rfl | exact plain_i64 _ | exact plain_ints _ | exact all_ints _ | omega | (dsimp only; omega) | (simp; done) | (simp only [htf] at *; first | omega | (simp; omega))), ?_⟩; conv => whnf) | (refine ⟨_, rfl, ?_⟩; conv => whnf) | (first | refine iteP_true rfl ?_ | refine iteP_false rfl ?_ | refine iteP_true ‹_› ?_ | refine iteP_false ‹_› ?_; conv => whnf) | (refine And.intro (by kernel_rfl : indep _ _ = true) ?_; conv => whnf) | (refine And.intro (by rfl : List.all _ _ = true) ?_; conv => whnf) | (refine And.intro (by first | exact Nat.le_of_ble_eq_true rfl | rfl | exact plain_i64 _ | exact plain_ints _ | exact all_ints _ | omega | (dsimp only; omega) | (simp; done) | (simp only [htf] at *; first | omega | (simp; omega))) ?_; conv => whnf) | (refine iteP_intro (fun hb => ?_) (fun hb => ?_) <;> (conv => whnf)))
    refine endI ?_
    exact wrap_nat (by omega)
set_option maxHeartbeats 4000000 in
set_option maxRecDepth 100000 in
theorem least_ret (m : Nat) (hm : m < 2 ^ 63) : Ret Tryd.prog G0 84 [⟨.ro, .one (i64 m)⟩] ⟨.one (i64 (Lib.ctz 64 m)), []⟩ := by
  (refine ret_of_den (E := en 6 [] (fun _ => [])) tt_ok mixed Tryd.func84 rfl rfl rfl rfl ?_; refine ⟨by simp, ?_⟩)
  have hw : IntKind.u64.wrap (m : Int) = m := wrap_u64 (by omega) (by omega)
  repeat' (first | (refine opt_some (getC_rows rfl rfl (by omega)) ?_; conv => whnf) | (refine opt_some rfl ?_; conv => whnf) | (refine ⟨_, (by simp only [nf, nl, nm, en, ints, Nat.reduceAdd, Nat.reduceMul, hw]; exact rfl), ?_⟩; conv => whnf) | (refine ⟨_, pick_at rfl (by first | exact Nat.le_of_ble_eq_true rfl | rfl | exact plain_i64 _ | exact plain_ints _ | exact all_ints _ | omega | (dsimp only; omega) | (simp; done) | (simp only [htf] at *; first | omega | (simp; omega))), ?_⟩; conv => whnf) | (refine ⟨_, rfl, ?_⟩; conv => whnf) | (first | refine iteP_true rfl ?_ | refine iteP_false rfl ?_ | refine iteP_true ‹_› ?_ | refine iteP_false ‹_› ?_; conv => whnf) | (refine And.intro (by kernel_rfl : indep _ _ = true) ?_; conv => whnf) | (refine And.intro (by rfl : List.all _ _ = true) ?_; conv => whnf) | (refine And.intro (by first | exact Nat.le_of_ble_eq_true rfl | rfl | exact plain_i64 _ | exact plain_ints _ | exact all_ints _ | omega | (dsimp only; omega) | (simp; done) | (simp only [htf] at *; first | omega | (simp; omega))) ?_; conv => whnf) | (refine iteP_intro (fun hb => ?_) (fun hb => ?_) <;> (conv => whnf)))
  (refine ⟨_, ctz_ret m (by omega), ?_⟩; conv => whnf)
  repeat' (first | (refine opt_some (getC_rows rfl rfl (by omega)) ?_; conv => whnf) | (refine opt_some rfl ?_; conv => whnf) | (refine ⟨_, (by simp only [nf, nl, nm, en, ints, Nat.reduceAdd, Nat.reduceMul]; exact rfl), ?_⟩; conv => whnf) | (refine ⟨_, pick_at rfl (by first | exact Nat.le_of_ble_eq_true rfl | rfl | exact plain_i64 _ | exact plain_ints _ | exact all_ints _ | omega | (dsimp only; omega) | (simp; done) | (simp only [htf] at *; first | omega | (simp; omega))), ?_⟩; conv => whnf) | (refine ⟨_, rfl, ?_⟩; conv => whnf) | (first | refine iteP_true rfl ?_ | refine iteP_false rfl ?_ | refine iteP_true ‹_› ?_ | refine iteP_false ‹_› ?_; conv => whnf) | (refine And.intro (by kernel_rfl : indep _ _ = true) ?_; conv => whnf) | (refine And.intro (by rfl : List.all _ _ = true) ?_; conv => whnf) | (refine And.intro (by first | exact Nat.le_of_ble_eq_true rfl | rfl | exact plain_i64 _ | exact plain_ints _ | exact all_ints _ | omega | (dsimp only; omega) | (simp; done) | (simp only [htf] at *; first | omega | (simp; omega))) ?_; conv => whnf) | (refine iteP_intro (fun hb => ?_) (fun hb => ?_) <;> (conv => whnf)))
  rfl
set_option maxHeartbeats 4000000 in
set_option maxRecDepth 100000 in
theorem members_ret (m : Nat) (hm : m < 2 ^ 63) : Ret Tryd.prog G0 70 [⟨.ro, .one (i64 m)⟩] ⟨.one (ints ((mems m).map fun j : Nat => (j : Int))), []⟩ := by
  (refine ret_of_den (E := en 17 [] (fun _ => [(3, 0), (0, 0)])) tt_ok mixed Tryd.func70 rfl rfl rfl rfl ?_; refine ⟨by simp, ?_⟩)
  repeat' (first | (refine opt_some (getC_rows rfl rfl (by omega)) ?_; conv => whnf) | (refine opt_some rfl ?_; conv => whnf) | (refine ⟨_, (by simp only [nf, nl, nm, en, ints, Nat.reduceAdd, Nat.reduceMul]; exact rfl), ?_⟩; conv => whnf) | (refine ⟨_, pick_at rfl (by first | exact Nat.le_of_ble_eq_true rfl | rfl | exact plain_i64 _ | exact plain_ints _ | exact all_ints _ | omega | (dsimp only; omega) | (simp; done) | (simp only [htf] at *; first | omega | (simp; omega))), ?_⟩; conv => whnf) | (refine ⟨_, rfl, ?_⟩; conv => whnf) | (first | refine iteP_true rfl ?_ | refine iteP_false rfl ?_ | refine iteP_true ‹_› ?_ | refine iteP_false ‹_› ?_; conv => whnf) | (refine And.intro (by kernel_rfl : indep _ _ = true) ?_; conv => whnf) | (refine And.intro (by rfl : List.all _ _ = true) ?_; conv => whnf) | (refine And.intro (by first | exact Nat.le_of_ble_eq_true rfl | rfl | exact plain_i64 _ | exact plain_ints _ | exact all_ints _ | omega | (dsimp only; omega) | (simp; done) | (simp only [htf] at *; first | omega | (simp; omega))) ?_; conv => whnf) | (refine iteP_intro (fun hb => ?_) (fun hb => ?_) <;> (conv => whnf)))
  refine ⟨fun k vs => ∃ (c : Nat) (out : List Int), c < 2 ^ 63 ∧ out ++ (mems c).map (fun j : Nat => (j : Int)) = (mems m).map (fun j : Nat => (j : Int)) ∧ vs = [.one (ints out), .one (i64 c)] ∧ k = c, rfl, ⟨_, m, [], hm, rfl, rfl, rfl⟩, ?_⟩
  rintro k vs ⟨c, out, hc, ho, rfl, hkc⟩
  have hol : out.length ≤ 64 := by
    have := congrArg List.length ho
    have h2 : (mems m).length ≤ 64 := by have := List.length_filter_le m.testBit (List.range 64); simpa [mems] using this
    simp at this
    omega
  repeat' (first | (refine opt_some (getC_rows rfl rfl (by omega)) ?_; conv => whnf) | (refine opt_some rfl ?_; conv => whnf) | (refine ⟨_, (by simp only [nf, nl, nm, en, ints, Nat.reduceAdd, Nat.reduceMul]; exact rfl), ?_⟩; conv => whnf) | (refine ⟨_, pick_at rfl (by first | exact Nat.le_of_ble_eq_true rfl | rfl | exact plain_i64 _ | exact plain_ints _ | exact all_ints _ | omega | (dsimp only; omega) | (simp; done) | (simp only [htf] at *; first | omega | (simp; omega))), ?_⟩; conv => whnf) | (refine ⟨_, rfl, ?_⟩; conv => whnf) | (first | refine iteP_true rfl ?_ | refine iteP_false rfl ?_ | refine iteP_true ‹_› ?_ | refine iteP_false ‹_› ?_; conv => whnf) | (refine And.intro (by kernel_rfl : indep _ _ = true) ?_; conv => whnf) | (refine And.intro (by rfl : List.all _ _ = true) ?_; conv => whnf) | (refine And.intro (by first | exact Nat.le_of_ble_eq_true rfl | rfl | exact plain_i64 _ | exact plain_ints _ | exact all_ints _ | omega | (dsimp only; omega) | (simp; done) | (simp only [htf] at *; first | omega | (simp; omega))) ?_; conv => whnf) | (refine iteP_intro (fun hb => ?_) (fun hb => ?_) <;> (conv => whnf)))
  · have h0 : c ≠ 0 := by have := neT hb; omega
    (refine ⟨_, least_ret c hc, ?_⟩; conv => whnf)
    repeat' (first | (refine opt_some (getC_rows rfl rfl (by omega)) ?_; conv => whnf) | (refine opt_some rfl ?_; conv => whnf) | (refine ⟨_, (by simp only [nf, nl, nm, en, ints, Nat.reduceAdd, Nat.reduceMul]; exact rfl), ?_⟩; conv => whnf) | (refine ⟨_, pick_at rfl (by first | exact Nat.le_of_ble_eq_true rfl | rfl | exact plain_i64 _ | exact plain_ints _ | exact all_ints _ | omega | (dsimp only; omega) | (simp; done) | (simp only [htf] at *; first | omega | (simp; omega))), ?_⟩; conv => whnf) | (refine ⟨_, rfl, ?_⟩; conv => whnf) | (first | refine iteP_true rfl ?_ | refine iteP_false rfl ?_ | refine iteP_true ‹_› ?_ | refine iteP_false ‹_› ?_; conv => whnf) | (refine And.intro (by kernel_rfl : indep _ _ = true) ?_; conv => whnf) | (refine And.intro (by rfl : List.all _ _ = true) ?_; conv => whnf) | (refine And.intro (by first | exact Nat.le_of_ble_eq_true rfl | rfl | exact plain_i64 _ | exact plain_ints _ | exact all_ints _ | omega | (dsimp only; omega) | (simp; done) | (simp only [htf] at *; first | omega | (simp; omega))) ?_; conv => whnf) | (refine iteP_intro (fun hb => ?_) (fun hb => ?_) <;> (conv => whnf)))
    have e1 : IntKind.i64.wrap ((c : Int) - 1) = ((c - 1 : Nat) : Int) := by rw [wrap_i64 (by omega) (by omega)]; omega
    have e2 := and_i64 (a := c) (b := c - 1) hc
    have h3 : c &&& (c - 1) ≤ c - 1 := Nat.and_le_right
    rw [mems_step h0 (by omega)] at ho
    refine ⟨c &&& (c - 1), by rw [hkc]; omega, c &&& (c - 1), out ++ [((Lib.ctz 64 c : Nat) : Int)], by omega, by rw [← ho]; simp, ?_, rfl⟩
    rw [e1, e2, ints_snoc]
    rfl
  · have h0 : c = 0 := by have := neF hb; omega
    subst h0
    rw [show mems 0 = [] from by simp [mems], List.map_nil, List.append_nil] at ho
    rw [ho]
    rfl
/-- Natural numbers as Go's. -/
def natI (ms : List Nat) : List Int := ms.map fun m : Nat => (m : Int)
theorem natI_length (ms : List Nat) : (natI ms).length = ms.length := by simp [natI]
theorem natI_get {ms : List Nat} {i : Nat} (h : i < (natI ms).length) : (natI ms)[i] = ((ms[i]'(by rwa [natI_length] at h) : Nat) : Int) := by simp [natI]
theorem natI_set {ms : List Nat} {i m : Nat} : (natI ms).set i (m : Int) = natI (ms.set i m) := by simp [natI]
/-- The converse of a relation, as far as the numbers below i go. -/
def cvN (ms : List Nat) (i : Nat) : List Nat := (List.range ms.length).map fun b => maskN (fun j => (ms.getD j 0).testBit b) i
def cvM (ms : List Nat) (i j : Nat) : List Nat := (List.range ms.length).map fun b => maskN (fun j => (ms.getD j 0).testBit b) i ||| if b ∈ (mems (ms.getD i 0)).take j then 2 ^ i else 0
theorem cvN_length (ms : List Nat) (i : Nat) : (cvN ms i).length = ms.length := by simp [cvN]
theorem cvM_length (ms : List Nat) (i j : Nat) : (cvM ms i j).length = ms.length := by simp [cvM]
theorem cvN_zero (ms : List Nat) : natI (cvN ms 0) = List.replicate ms.length 0 := by
  simp [natI, cvN, maskN, Function.comp_def, List.map_const']
theorem cvM_zero (ms : List Nat) (i : Nat) : cvM ms i 0 = cvN ms i := by simp [cvM, cvN]
theorem cvM_full (ms : List Nat) (i : Nat) (h : ms.length ≤ 64) : cvM ms i (mems (ms.getD i 0)).length = cvN ms (i + 1) := by
  unfold cvM cvN
  refine List.map_congr_left fun b hb => ?_
  have hb := List.mem_range.1 hb
  rw [List.take_length, maskN_or]
  congr 1
  simp only [mems, List.mem_filter, List.mem_range]
  by_cases hp : (ms.getD i 0).testBit b = true
  · rw [if_pos ⟨by omega, hp⟩, if_pos hp]
  · rw [if_neg (fun h => hp h.2), if_neg hp]
theorem cvM_get {ms : List Nat} {i j b : Nat} (h : b < (cvM ms i j).length) : (cvM ms i j)[b] = maskN (fun j => (ms.getD j 0).testBit b) i ||| if b ∈ (mems (ms.getD i 0)).take j then 2 ^ i else 0 := by simp [cvM]
theorem cvM_set {ms : List Nat} {i j b : Nat} (hj : j < (mems (ms.getD i 0)).length) (hb : (mems (ms.getD i 0))[j] = b) (hbl : b < ms.length) :
    (cvM ms i j).set b ((cvM ms i j)[b]'(by rw [cvM_length]; exact hbl) ||| 2 ^ i) = cvM ms i (j + 1) := by
  refine List.ext_getElem (by simp [cvM_length]) fun c h1 h2 => ?_
  have hc : c < (cvM ms i j).length := by simpa using h1
  have ht : (mems (ms.getD i 0)).take (j + 1) = (mems (ms.getD i 0)).take j ++ [b] := by rw [List.take_succ_eq_append_getElem hj, hb]
  rw [List.getElem_set, cvM_get h2, ht]
  split
  · rename_i e
    subst e
    rw [cvM_get, if_pos (show b ∈ (mems (ms.getD i 0)).take j ++ [b] by simp)]
    split
    · rw [Nat.or_assoc, Nat.or_self]
    · rw [Nat.or_zero]
  · rename_i e
    rw [cvM_get hc]
    congr 1
    have : (c ∈ (mems (ms.getD i 0)).take j ++ [b]) ↔ c ∈ (mems (ms.getD i 0)).take j := by
      rw [List.mem_append, List.mem_singleton]
      exact ⟨fun h => h.resolve_right fun h => e h.symm, .inl⟩
    by_cases h3 : c ∈ (mems (ms.getD i 0)).take j
    · rw [if_pos h3, if_pos (this.2 h3)]
    · rw [if_neg h3, if_neg (fun h => h3 (this.1 h))]
theorem cvM_lt {ms : List Nat} {i j b : Nat} (h : b < (cvM ms i j).length) : (cvM ms i j)[b] < 2 ^ (i + 1) := by
  rw [cvM_get]
  have h1 := maskN_lt (fun j => (ms.getD j 0).testBit b) i
  refine Nat.or_lt_two_pow (by rw [Nat.pow_succ]; omega) ?_
  split
  · rw [Nat.pow_succ]; have := Nat.two_pow_pos i; omega
  · exact Nat.two_pow_pos _
theorem mems_lt {m n b : Nat} (h : m < 2 ^ n) (hb : b ∈ mems m) : b < n ∧ b < 64 := by
  simp only [mems, List.mem_filter, List.mem_range] at hb
  refine ⟨?_, hb.1⟩
  rcases Nat.lt_or_ge b n with h1 | h1
  · exact h1
  · have : m.testBit b = false := Nat.testBit_lt_two_pow (Nat.lt_of_lt_of_le h (Nat.pow_le_pow_right (by decide) h1))
    rw [this] at hb
    exact absurd hb.2 (by simp)
set_option maxHeartbeats 4000000 in
set_option maxRecDepth 100000 in
theorem converse_ret (ms : List Nat) (hl : ms.length ≤ 24) (hm : ∀ m ∈ ms, m < 2 ^ ms.length) : Ret Tryd.prog G0 58 [⟨.ro, .one (ints (natI ms))⟩] ⟨.one (ints (natI (cvN ms ms.length))), []⟩ := by
  have hnl := natI_length ms
  (refine ret_of_den (E := en 36 [] (fun | 3 => [(3, 0), (12, 0), (13, 0), (11, 1)] | 6 => [(3, 0), (12, 0), (13, 0), (19, 0), (20, 0), (21, 0), (4, 0), (11, 1)] | _ => [])) tt_ok mixed Tryd.func58 rfl rfl rfl rfl ?_; refine ⟨by simp, ?_⟩)
  repeat' (first | (refine opt_some (getC_rows rfl rfl (by omega)) ?_; conv => whnf) | (refine opt_some rfl ?_; conv => whnf) | (refine ⟨_, (by simp only [nf, nl, nm, en, ints, Nat.reduceAdd, Nat.reduceMul, Int.toNat_natCast]; exact rfl), ?_⟩; conv => whnf) | (refine ⟨_, pick_at rfl (by first | exact Nat.le_of_ble_eq_true rfl | rfl | exact plain_i64 _ | exact plain_ints _ | exact all_ints _ | omega | (dsimp only; omega) | (simp; done) | (simp only [htf] at *; first | omega | (simp; omega))), ?_⟩; conv => whnf) | (refine ⟨_, rfl, ?_⟩; conv => whnf) | (first | refine iteP_true rfl ?_ | refine iteP_false rfl ?_ | refine iteP_true ‹_› ?_ | refine iteP_false ‹_› ?_; conv => whnf) | (refine And.intro (by kernel_rfl : indep _ _ = true) ?_; conv => whnf) | (refine And.intro (by rfl : List.all _ _ = true) ?_; conv => whnf) | (refine And.intro (by first | exact Nat.le_of_ble_eq_true rfl | rfl | exact plain_i64 _ | exact plain_ints _ | exact all_ints _ | omega | (dsimp only; omega) | (simp; done) | (simp only [htf] at *; first | omega | (simp; omega))) ?_; conv => whnf) | (refine iteP_intro (fun hb => ?_) (fun hb => ?_) <;> (conv => whnf)))
  refine ⟨fun k vs => ∃ i : Nat, i ≤ ms.length ∧ vs = [.one (ints (natI (cvN ms i))), .one (i64 ms.length), .one (i64 i), .one (.shd (ints (natI ms)))] ∧ k = ms.length - i, rfl, ⟨_, 0, by omega, ?_, rfl⟩, ?_⟩
  · have : List.replicate (natI ms).length (Cell.c (.int .i64 0)) = (natI (cvN ms 0)).map i64 := by rw [cvN_zero, hnl, List.map_replicate]
    rw [this, hnl]
    simp only [ints, natI_length, cvN_length]
    rfl
  · rintro k vs ⟨i, hi, rfl, rfl⟩
    repeat (first | (refine opt_some (getC_rows rfl rfl (by omega)) ?_; conv => whnf) | (refine opt_some rfl ?_; conv => whnf) | (refine ⟨_, (by simp only [nf, nl, nm, en, ints, Nat.reduceAdd, Nat.reduceMul]; exact rfl), ?_⟩; conv => whnf) | (refine ⟨_, pick_at rfl (by first | exact Nat.le_of_ble_eq_true rfl | rfl | exact plain_i64 _ | exact plain_ints _ | exact all_ints _ | omega | (dsimp only; omega) | (simp; done) | (simp only [htf] at *; first | omega | (simp; omega))), ?_⟩; conv => whnf) | (refine ⟨_, rfl, ?_⟩; conv => whnf) | (first | refine iteP_true rfl ?_ | refine iteP_false rfl ?_ | refine iteP_true ‹_› ?_ | refine iteP_false ‹_› ?_; conv => whnf) | (refine And.intro (by kernel_rfl : indep _ _ = true) ?_; conv => whnf) | (refine And.intro (by rfl : List.all _ _ = true) ?_; conv => whnf) | (refine And.intro (by first | exact Nat.le_of_ble_eq_true rfl | rfl | exact plain_i64 _ | exact plain_ints _ | exact all_ints _ | omega | (dsimp only; omega) | (simp; done) | (simp only [htf] at *; first | omega | (simp; omega))) ?_; conv => whnf))
    refine iteP_intro (fun hb => ?_) (fun hb => ?_) <;> (conv => whnf)
    · have hi' : i < ms.length := by have := leT hb; omega
      have hmi : ms.getD i 0 < 2 ^ ms.length := by
        rw [List.getD_eq_getElem?_getD, List.getElem?_eq_getElem hi']
        exact hm _ (List.getElem_mem _)
      have hge : (natI ms)[i]'(by rw [hnl]; exact hi') = ((ms.getD i 0 : Nat) : Int) := by
        rw [natI_get, List.getD_eq_getElem?_getD, List.getElem?_eq_getElem hi', Option.getD_some]
      have h63 : ms.getD i 0 < 2 ^ 63 := Nat.lt_of_lt_of_le hmi (Nat.pow_le_pow_right (by decide) (by omega))
      repeat (first | (refine opt_some (getC_rows rfl rfl (by omega)) ?_; conv => whnf) | (refine opt_some rfl ?_; conv => whnf) | (refine ⟨_, (by simp only [nf, nl, nm, en, ints, Nat.reduceAdd, Nat.reduceMul, hge]; exact rfl), ?_⟩; conv => whnf) | (refine ⟨_, pick_at rfl (by first | exact Nat.le_of_ble_eq_true rfl | rfl | exact plain_i64 _ | exact plain_ints _ | exact all_ints _ | omega | (dsimp only; omega) | (simp; done) | (simp only [htf] at *; first | omega | (simp; omega))), ?_⟩; conv => whnf) | (refine ⟨_, rfl, ?_⟩; conv => whnf) | (first | refine iteP_true rfl ?_ | refine iteP_false rfl ?_ | refine iteP_true ‹_› ?_ | refine iteP_false ‹_› ?_; conv => whnf) | (refine And.intro (by kernel_rfl : indep _ _ = true) ?_; conv => whnf) | (refine And.intro (by rfl : List.all _ _ = true) ?_; conv => whnf) | (refine And.intro (by first | exact Nat.le_of_ble_eq_true rfl | rfl | exact plain_i64 _ | exact plain_ints _ | exact all_ints _ | omega | (dsimp only; omega) | (simp; done) | (simp only [htf] at *; first | omega | (simp; omega))) ?_; conv => whnf))
      (refine ⟨_, members_ret _ h63, ?_⟩; conv => whnf)
      repeat (first | (refine opt_some (getC_rows rfl rfl (by omega)) ?_; conv => whnf) | (refine opt_some rfl ?_; conv => whnf) | (refine ⟨_, (by simp only [nf, nl, nm, en, ints, Nat.reduceAdd, Nat.reduceMul, hge]; exact rfl), ?_⟩; conv => whnf) | (refine ⟨_, pick_at rfl (by first | exact Nat.le_of_ble_eq_true rfl | rfl | exact plain_i64 _ | exact plain_ints _ | exact all_ints _ | omega | (dsimp only; omega) | (simp; done) | (simp only [htf] at *; first | omega | (simp; omega))), ?_⟩; conv => whnf) | (refine ⟨_, rfl, ?_⟩; conv => whnf) | (first | refine iteP_true rfl ?_ | refine iteP_false rfl ?_ | refine iteP_true ‹_› ?_ | refine iteP_false ‹_› ?_; conv => whnf) | (refine And.intro (by kernel_rfl : indep _ _ = true) ?_; conv => whnf) | (refine And.intro (by rfl : List.all _ _ = true) ?_; conv => whnf) | (refine And.intro (by first | exact Nat.le_of_ble_eq_true rfl | rfl | exact plain_i64 _ | exact plain_ints _ | exact all_ints _ | omega | (dsimp only; omega) | (simp; done) | (simp only [htf] at *; first | omega | (simp; omega))) ?_; conv => whnf))
      refine ⟨fun k vs => ∃ j : Nat, j ≤ (mems (ms.getD i 0)).length ∧ vs = [.one (ints (natI (cvM ms i j))), .one (i64 ms.length), .one (i64 i), .one (ints (natI (mems (ms.getD i 0)))), .one (i64 (mems (ms.getD i 0)).length), .one (i64 j), .one (i64 i), .one (.shd (ints (natI ms)))] ∧ k = (mems (ms.getD i 0)).length - j, rfl, ⟨_, 0, by omega, ?_, rfl⟩, ?_⟩
      · rw [cvM_zero]
        simp only [ints, natI_length, cvN_length, natI, List.length_map]
        rfl
      · rintro k vs ⟨j, hj, rfl, rfl⟩
        repeat (first | (refine opt_some (getC_rows rfl rfl (by omega)) ?_; conv => whnf) | (refine opt_some rfl ?_; conv => whnf) | (refine ⟨_, (by simp only [nf, nl, nm, en, ints, Nat.reduceAdd, Nat.reduceMul]; exact rfl), ?_⟩; conv => whnf) | (refine ⟨_, pick_at rfl (by first | exact Nat.le_of_ble_eq_true rfl | rfl | exact plain_i64 _ | exact plain_ints _ | exact all_ints _ | omega | (dsimp only; omega) | (simp; done) | (simp only [htf] at *; first | omega | (simp; omega))), ?_⟩; conv => whnf) | (refine ⟨_, rfl, ?_⟩; conv => whnf) | (first | refine iteP_true rfl ?_ | refine iteP_false rfl ?_ | refine iteP_true ‹_› ?_ | refine iteP_false ‹_› ?_; conv => whnf) | (refine And.intro (by kernel_rfl : indep _ _ = true) ?_; conv => whnf) | (refine And.intro (by rfl : List.all _ _ = true) ?_; conv => whnf) | (refine And.intro (by first | exact Nat.le_of_ble_eq_true rfl | rfl | exact plain_i64 _ | exact plain_ints _ | exact all_ints _ | omega | (dsimp only; omega) | (simp; done) | (simp only [htf] at *; first | omega | (simp; omega))) ?_; conv => whnf))
        refine iteP_intro (fun hb => ?_) (fun hb => ?_) <;> (conv => whnf)
        · have hj' : j < (mems (ms.getD i 0)).length := by have := leT hb; omega
          obtain ⟨hbn, hb64⟩ := mems_lt hmi (List.getElem_mem hj')
          generalize hbe : (mems (ms.getD i 0))[j] = b at hbn hb64
          have hgb : (natI (mems (ms.getD i 0)))[j]'(by rw [natI_length]; exact hj') = ((b : Nat) : Int) := by rw [natI_get, hbe]
          have hbl : b < (cvM ms i j).length := by rw [cvM_length]; exact hbn
          have hgc : (natI (cvM ms i j))[b]'(by rw [natI_length]; exact hbl) = (((cvM ms i j)[b] : Nat) : Int) := natI_get _
          have hcl := cvM_length ms i j
          have hcn := natI_length (cvM ms i j)
          have hmn := natI_length (mems (ms.getD i 0))
          have hm64 := mems_length (ms.getD i 0)
          have hp := pow_i64 (i := i) (by omega)
          have hx63 : (cvM ms i j)[b] < 2 ^ 63 := Nat.lt_of_lt_of_le (cvM_lt hbl) (Nat.pow_le_pow_right (by decide) (by omega))
          repeat (first | (refine opt_some (getC_rows rfl rfl (by omega)) ?_; conv => whnf) | (refine opt_some rfl ?_; conv => whnf) | (refine ⟨_, (by simp only [nf, nl, nm, en, ints, Nat.reduceAdd, Nat.reduceMul, hgb, hgc]; exact rfl), ?_⟩; conv => whnf) | (refine ⟨_, pick_at rfl (by first | exact Nat.le_of_ble_eq_true rfl | rfl | exact plain_i64 _ | exact plain_ints _ | exact all_ints _ | omega | (dsimp only; omega) | (simp; done) | (simp only [htf] at *; first | omega | (simp; omega))), ?_⟩; conv => whnf) | (refine ⟨_, rfl, ?_⟩; conv => whnf) | (first | refine iteP_true rfl ?_ | refine iteP_false rfl ?_ | refine iteP_true ‹_› ?_ | refine iteP_false ‹_› ?_; conv => whnf) | (refine And.intro (by kernel_rfl : indep _ _ = true) ?_; conv => whnf) | (refine And.intro (by rfl : List.all _ _ = true) ?_; conv => whnf) | (refine And.intro (by first | exact Nat.le_of_ble_eq_true rfl | rfl | exact plain_i64 _ | exact plain_ints _ | exact all_ints _ | omega | (dsimp only; omega) | (simp; done) | (simp only [htf] at *; first | omega | (simp; omega))) ?_; conv => whnf))
          (refine ⟨_, one_retN i (by omega), ?_⟩; conv => whnf)
          repeat (first | (refine opt_some (getC_rows rfl rfl (by omega)) ?_; conv => whnf) | (refine opt_some rfl ?_; conv => whnf) | (refine ⟨_, (by simp only [nf, nl, nm, en, ints, Nat.reduceAdd, Nat.reduceMul, hgb, hgc]; exact rfl), ?_⟩; conv => whnf) | (refine ⟨_, pick_at rfl (by first | exact Nat.le_of_ble_eq_true rfl | rfl | exact plain_i64 _ | exact plain_ints _ | exact all_ints _ | omega | (dsimp only; omega) | (simp; done) | (simp only [htf] at *; first | omega | (simp; omega))), ?_⟩; conv => whnf) | (refine ⟨_, rfl, ?_⟩; conv => whnf) | (first | refine iteP_true rfl ?_ | refine iteP_false rfl ?_ | refine iteP_true ‹_› ?_ | refine iteP_false ‹_› ?_; conv => whnf) | (refine And.intro (by kernel_rfl : indep _ _ = true) ?_; conv => whnf) | (refine And.intro (by rfl : List.all _ _ = true) ?_; conv => whnf) | (refine And.intro (by first | exact Nat.le_of_ble_eq_true rfl | rfl | exact plain_i64 _ | exact plain_ints _ | exact all_ints _ | omega | (dsimp only; omega) | (simp; done) | (simp only [htf] at *; first | omega | (simp; omega))) ?_; conv => whnf))
          refine ⟨⟨by simp [natI, cvM_length]; omega, plain_i64 _⟩, ?_⟩
          conv => whnf
          refine ⟨_, by simp only [nf, nl, nm, en, ints, Nat.reduceAdd, Nat.reduceMul]; rw [or_i64 hx63 hp, splice_at rfl (by rw [natI_length]; exact hbl), natI_set, cvM_set hj' hbe hbn], ?_⟩
          conv => whnf
          repeat (first | (refine opt_some (getC_rows rfl rfl (by omega)) ?_; conv => whnf) | (refine opt_some rfl ?_; conv => whnf) | (refine ⟨_, (by simp only [nf, nl, nm, en, ints, Nat.reduceAdd, Nat.reduceMul]; exact rfl), ?_⟩; conv => whnf) | (refine ⟨_, pick_at rfl (by first | exact Nat.le_of_ble_eq_true rfl | rfl | exact plain_i64 _ | exact plain_ints _ | exact all_ints _ | omega | (dsimp only; omega) | (simp; done) | (simp only [htf] at *; first | omega | (simp; omega))), ?_⟩; conv => whnf) | (refine ⟨_, rfl, ?_⟩; conv => whnf) | (first | refine iteP_true rfl ?_ | refine iteP_false rfl ?_ | refine iteP_true ‹_› ?_ | refine iteP_false ‹_› ?_; conv => whnf) | (refine And.intro (by kernel_rfl : indep _ _ = true) ?_; conv => whnf) | (refine And.intro (by rfl : List.all _ _ = true) ?_; conv => whnf) | (refine And.intro (by first | exact Nat.le_of_ble_eq_true rfl | rfl | exact plain_i64 _ | exact plain_ints _ | exact all_ints _ | omega | (dsimp only; omega) | (simp; done) | (simp only [htf] at *; first | omega | (simp; omega))) ?_; conv => whnf))
          refine ⟨_, ?_, j + 1, hj', ?_, rfl⟩
          · omega
          · rw [wrap_succ (by omega)]
            simp only [ints, natI_length, cvM_length]
            rfl
        · obtain rfl : j = (mems (ms.getD i 0)).length := by have := leF hb; omega
          repeat (first | (refine opt_some (getC_rows rfl rfl (by omega)) ?_; conv => whnf) | (refine opt_some rfl ?_; conv => whnf) | (refine ⟨_, (by simp only [nf, nl, nm, en, ints, Nat.reduceAdd, Nat.reduceMul]; exact rfl), ?_⟩; conv => whnf) | (refine ⟨_, pick_at rfl (by first | exact Nat.le_of_ble_eq_true rfl | rfl | exact plain_i64 _ | exact plain_ints _ | exact all_ints _ | omega | (dsimp only; omega) | (simp; done) | (simp only [htf] at *; first | omega | (simp; omega))), ?_⟩; conv => whnf) | (refine ⟨_, rfl, ?_⟩; conv => whnf) | (first | refine iteP_true rfl ?_ | refine iteP_false rfl ?_ | refine iteP_true ‹_› ?_ | refine iteP_false ‹_› ?_; conv => whnf) | (refine And.intro (by kernel_rfl : indep _ _ = true) ?_; conv => whnf) | (refine And.intro (by rfl : List.all _ _ = true) ?_; conv => whnf) | (refine And.intro (by first | exact Nat.le_of_ble_eq_true rfl | rfl | exact plain_i64 _ | exact plain_ints _ | exact all_ints _ | omega | (dsimp only; omega) | (simp; done) | (simp only [htf] at *; first | omega | (simp; omega))) ?_; conv => whnf))
          refine ⟨_, ?_, i + 1, hi', ?_, rfl⟩
          · omega
          · rw [wrap_succ (by omega), cvM_full ms i (by omega)]
            simp only [ints, natI_length, cvN_length]
            rfl
    · obtain rfl : i = ms.length := by have := leF hb; omega
      repeat' (first | (refine opt_some (getC_rows rfl rfl (by omega)) ?_; conv => whnf) | (refine opt_some rfl ?_; conv => whnf) | (refine ⟨_, (by simp only [nf, nl, nm, en, ints, Nat.reduceAdd, Nat.reduceMul]; exact rfl), ?_⟩; conv => whnf) | (refine ⟨_, pick_at rfl (by first | exact Nat.le_of_ble_eq_true rfl | rfl | exact plain_i64 _ | exact plain_ints _ | exact all_ints _ | omega | (dsimp only; omega) | (simp; done) | (simp only [htf] at *; first | omega | (simp; omega))), ?_⟩; conv => whnf) | (refine ⟨_, rfl, ?_⟩; conv => whnf) | (first | refine iteP_true rfl ?_ | refine iteP_false rfl ?_ | refine iteP_true ‹_› ?_ | refine iteP_false ‹_› ?_; conv => whnf) | (refine And.intro (by kernel_rfl : indep _ _ = true) ?_; conv => whnf) | (refine And.intro (by rfl : List.all _ _ = true) ?_; conv => whnf) | (refine And.intro (by first | exact Nat.le_of_ble_eq_true rfl | rfl | exact plain_i64 _ | exact plain_ints _ | exact all_ints _ | omega | (dsimp only; omega) | (simp; done) | (simp only [htf] at *; first | omega | (simp; omega))) ?_; conv => whnf) | (refine iteP_intro (fun hb => ?_) (fun hb => ?_) <;> (conv => whnf)))
      simp [resSV, isAggS, ints, natI_length, cvN_length]
/-- Are the numbers a relation on as many as they are? -/
def relOk (ds : List Int) : Bool := decide (ds.length ≤ 24) && ds.all fun d => decide (0 ≤ d ∧ d ≤ 2 ^ ds.length - 1)
set_option maxHeartbeats 4000000 in
set_option maxRecDepth 100000 in
theorem isRel_ret (ds : List Int) (hx : ds.length < 2 ^ 62) : Ret Tryd.prog G0 57 [⟨.ro, .one (ints ds)⟩] ⟨.one (.c (.bool (relOk ds))), []⟩ := by
  (refine ret_of_den (E := en 14 [] (fun _ => [])) tt_ok mixed Tryd.func57 rfl rfl rfl rfl ?_; refine ⟨by simp, ?_⟩)
  repeat (first | (refine opt_some (getC_rows rfl rfl (by omega)) ?_; conv => whnf) | (refine opt_some rfl ?_; conv => whnf) | (refine ⟨_, (by simp only [nf, nl, nm, en, ints, Nat.reduceAdd, Nat.reduceMul]; exact rfl), ?_⟩; conv => whnf) | (refine ⟨_, pick_at rfl (by first | exact Nat.le_of_ble_eq_true rfl | rfl | exact plain_i64 _ | exact plain_ints _ | exact all_ints _ | omega | (dsimp only; omega) | (simp; done) | (simp only [htf] at *; first | omega | (simp; omega))), ?_⟩; conv => whnf) | (refine ⟨_, rfl, ?_⟩; conv => whnf) | (first | refine iteP_true rfl ?_ | refine iteP_false rfl ?_ | refine iteP_true ‹_› ?_ | refine iteP_false ‹_› ?_; conv => whnf) | (refine And.intro (by kernel_rfl : indep _ _ = true) ?_; conv => whnf) | (refine And.intro (by rfl : List.all _ _ = true) ?_; conv => whnf) | (refine And.intro (by first | exact Nat.le_of_ble_eq_true rfl | rfl | exact plain_i64 _ | exact plain_ints _ | exact all_ints _ | omega | (dsimp only; omega) | (simp; done) | (simp only [htf] at *; first | omega | (simp; omega))) ?_; conv => whnf))
  refine iteP_intro (fun hb => ?_) (fun hb => ?_) <;> (conv => whnf)
  · have hl : ds.length ≤ 24 := by have := leT hb; omega
    have hp := pow_i64 (i := ds.length) (by omega)
    have hp1 := Nat.two_pow_pos ds.length
    have hw : IntKind.i64.wrap (((2 ^ ds.length : Nat) : Int) - 1) = ((2 ^ ds.length : Nat) : Int) - 1 := wrap_i64 (by omega) (by omega)
    repeat (first | (refine opt_some (getC_rows rfl rfl (by omega)) ?_; conv => whnf) | (refine opt_some rfl ?_; conv => whnf) | (refine ⟨_, (by simp only [nf, nl, nm, en, ints, Nat.reduceAdd, Nat.reduceMul, hw]; exact rfl), ?_⟩; conv => whnf) | (refine ⟨_, pick_at rfl (by first | exact Nat.le_of_ble_eq_true rfl | rfl | exact plain_i64 _ | exact plain_ints _ | exact all_ints _ | omega | (dsimp only; omega) | (simp; done) | (simp only [htf] at *; first | omega | (simp; omega))), ?_⟩; conv => whnf) | (refine ⟨_, rfl, ?_⟩; conv => whnf) | (first | refine iteP_true rfl ?_ | refine iteP_false rfl ?_ | refine iteP_true ‹_› ?_ | refine iteP_false ‹_› ?_; conv => whnf) | (refine And.intro (by kernel_rfl : indep _ _ = true) ?_; conv => whnf) | (refine And.intro (by rfl : List.all _ _ = true) ?_; conv => whnf) | (refine And.intro (by first | exact Nat.le_of_ble_eq_true rfl | rfl | exact plain_i64 _ | exact plain_ints _ | exact all_ints _ | omega | (dsimp only; omega) | (simp; done) | (simp only [htf] at *; first | omega | (simp; omega))) ?_; conv => whnf))
    (refine ⟨_, length_ret ds, ?_⟩; conv => whnf)
    repeat (first | (refine opt_some (getC_rows rfl rfl (by omega)) ?_; conv => whnf) | (refine opt_some rfl ?_; conv => whnf) | (refine ⟨_, (by simp only [nf, nl, nm, en, ints, Nat.reduceAdd, Nat.reduceMul, hw]; exact rfl), ?_⟩; conv => whnf) | (refine ⟨_, pick_at rfl (by first | exact Nat.le_of_ble_eq_true rfl | rfl | exact plain_i64 _ | exact plain_ints _ | exact all_ints _ | omega | (dsimp only; omega) | (simp; done) | (simp only [htf] at *; first | omega | (simp; omega))), ?_⟩; conv => whnf) | (refine ⟨_, rfl, ?_⟩; conv => whnf) | (first | refine iteP_true rfl ?_ | refine iteP_false rfl ?_ | refine iteP_true ‹_› ?_ | refine iteP_false ‹_› ?_; conv => whnf) | (refine And.intro (by kernel_rfl : indep _ _ = true) ?_; conv => whnf) | (refine And.intro (by rfl : List.all _ _ = true) ?_; conv => whnf) | (refine And.intro (by first | exact Nat.le_of_ble_eq_true rfl | rfl | exact plain_i64 _ | exact plain_ints _ | exact all_ints _ | omega | (dsimp only; omega) | (simp; done) | (simp only [htf] at *; first | omega | (simp; omega))) ?_; conv => whnf))
    (refine ⟨_, one_retN ds.length (by omega), ?_⟩; conv => whnf)
    repeat (first | (refine opt_some (getC_rows rfl rfl (by omega)) ?_; conv => whnf) | (refine opt_some rfl ?_; conv => whnf) | (refine ⟨_, (by simp only [nf, nl, nm, en, ints, Nat.reduceAdd, Nat.reduceMul, hw]; exact rfl), ?_⟩; conv => whnf) | (refine ⟨_, pick_at rfl (by first | exact Nat.le_of_ble_eq_true rfl | rfl | exact plain_i64 _ | exact plain_ints _ | exact all_ints _ | omega | (dsimp only; omega) | (simp; done) | (simp only [htf] at *; first | omega | (simp; omega))), ?_⟩; conv => whnf) | (refine ⟨_, rfl, ?_⟩; conv => whnf) | (first | refine iteP_true rfl ?_ | refine iteP_false rfl ?_ | refine iteP_true ‹_› ?_ | refine iteP_false ‹_› ?_; conv => whnf) | (refine And.intro (by kernel_rfl : indep _ _ = true) ?_; conv => whnf) | (refine And.intro (by rfl : List.all _ _ = true) ?_; conv => whnf) | (refine And.intro (by first | exact Nat.le_of_ble_eq_true rfl | rfl | exact plain_i64 _ | exact plain_ints _ | exact all_ints _ | omega | (dsimp only; omega) | (simp; done) | (simp only [htf] at *; first | omega | (simp; omega))) ?_; conv => whnf))
    (refine ⟨_, allIn_ret ds _ _ hx, ?_⟩; conv => whnf)
    repeat (first | (refine opt_some (getC_rows rfl rfl (by omega)) ?_; conv => whnf) | (refine opt_some rfl ?_; conv => whnf) | (refine ⟨_, (by simp only [nf, nl, nm, en, ints, Nat.reduceAdd, Nat.reduceMul, hw]; exact rfl), ?_⟩; conv => whnf) | (refine ⟨_, pick_at rfl (by first | exact Nat.le_of_ble_eq_true rfl | rfl | exact plain_i64 _ | exact plain_ints _ | exact all_ints _ | omega | (dsimp only; omega) | (simp; done) | (simp only [htf] at *; first | omega | (simp; omega))), ?_⟩; conv => whnf) | (refine ⟨_, rfl, ?_⟩; conv => whnf) | (first | refine iteP_true rfl ?_ | refine iteP_false rfl ?_ | refine iteP_true ‹_› ?_ | refine iteP_false ‹_› ?_; conv => whnf) | (refine And.intro (by kernel_rfl : indep _ _ = true) ?_; conv => whnf) | (refine And.intro (by rfl : List.all _ _ = true) ?_; conv => whnf) | (refine And.intro (by first | exact Nat.le_of_ble_eq_true rfl | rfl | exact plain_i64 _ | exact plain_ints _ | exact all_ints _ | omega | (dsimp only; omega) | (simp; done) | (simp only [htf] at *; first | omega | (simp; omega))) ?_; conv => whnf))
    refine endB ?_
    unfold relOk
    rw [decide_eq_true hl, Bool.true_and]
    simp
  · repeat' (first | (refine opt_some (getC_rows rfl rfl (by omega)) ?_; conv => whnf) | (refine opt_some rfl ?_; conv => whnf) | (refine ⟨_, (by simp only [nf, nl, nm, en, ints, Nat.reduceAdd, Nat.reduceMul]; exact rfl), ?_⟩; conv => whnf) | (refine ⟨_, pick_at rfl (by first | exact Nat.le_of_ble_eq_true rfl | rfl | exact plain_i64 _ | exact plain_ints _ | exact all_ints _ | omega | (dsimp only; omega) | (simp; done) | (simp only [htf] at *; first | omega | (simp; omega))), ?_⟩; conv => whnf) | (refine ⟨_, rfl, ?_⟩; conv => whnf) | (first | refine iteP_true rfl ?_ | refine iteP_false rfl ?_ | refine iteP_true ‹_› ?_ | refine iteP_false ‹_› ?_; conv => whnf) | (refine And.intro (by kernel_rfl : indep _ _ = true) ?_; conv => whnf) | (refine And.intro (by rfl : List.all _ _ = true) ?_; conv => whnf) | (refine And.intro (by first | exact Nat.le_of_ble_eq_true rfl | rfl | exact plain_i64 _ | exact plain_ints _ | exact all_ints _ | omega | (dsimp only; omega) | (simp; done) | (simp only [htf] at *; first | omega | (simp; omega))) ?_; conv => whnf) | (refine iteP_intro (fun hb => ?_) (fun hb => ?_) <;> (conv => whnf)))
    refine endB ?_
    unfold relOk
    rw [decide_eq_false (by have := leF hb; omega)]
    rfl
/-- Does each number belong to its own set, and each to another's set as that to its? -/
def symOk (ms : List Nat) : Bool := (List.range ms.length).all fun a => (ms.getD a 0).testBit a && (List.range ms.length).all fun b => (ms.getD a 0).testBit b == (ms.getD b 0).testBit a
theorem symOk_iff {ms : List Nat} : symOk ms = true ↔ ∀ a < ms.length, (ms.getD a 0).testBit a = true ∧ ∀ b < ms.length, (ms.getD a 0).testBit b = (ms.getD b 0).testBit a := by
  simp [symOk, List.all_eq_true]
/-- Is it an alphabet? -/
def alphaOk (n : Int) (ds : List Int) : Bool := decide (0 ≤ n ∧ n ≤ 8) && decide ((ds.length : Int) = n) && relOk ds && symOk (ds.map Int.toNat)
theorem rel_nat {ds : List Int} (h : relOk ds = true) : ds = natI (ds.map Int.toNat) ∧ ∀ m ∈ ds.map Int.toNat, m < 2 ^ (ds.map Int.toNat).length := by
  simp only [relOk, Bool.and_eq_true, List.all_eq_true, decide_eq_true_eq] at h
  constructor
  · unfold natI
    rw [List.map_map]
    conv => lhs; rw [← List.map_id ds]
    refine List.map_congr_left fun d hd => ?_
    have := (h.2 d hd).1
    simp only [id, Function.comp]
    omega
  · intro m hm
    obtain ⟨d, hd, rfl⟩ := List.mem_map.1 hm
    have h2 := h.2 d hd
    rw [List.length_map]
    have : ((2 ^ ds.length : Nat) : Int) = 2 ^ ds.length := by simp
    omega
theorem cv_sym {ms : List Nat} (hm : ∀ m ∈ ms, m < 2 ^ ms.length) {a : Nat} (ha : a < ms.length) : ((cvN ms ms.length)[a]'(by rw [cvN_length]; exact ha) = ms[a]) ↔ ∀ b < ms.length, (ms.getD a 0).testBit b = (ms.getD b 0).testBit a := by
  have e : (cvN ms ms.length)[a]'(by rw [cvN_length]; exact ha) = maskN (fun j => (ms.getD j 0).testBit a) ms.length := by simp [cvN]
  have e2 : ms.getD a 0 = ms[a] := by rw [List.getD_eq_getElem?_getD, List.getElem?_eq_getElem ha, Option.getD_some]
  rw [e, e2]
  constructor
  · intro h b hb
    rw [← h, maskN_bit, decide_eq_true hb, Bool.true_and]
  · intro h
    rw [← maskN_self (hm _ (List.getElem_mem ha))]
    exact maskN_congr fun i hi => (h i hi).symm
end Go.Proofs.YthlnahomjdcbeaaDoor
