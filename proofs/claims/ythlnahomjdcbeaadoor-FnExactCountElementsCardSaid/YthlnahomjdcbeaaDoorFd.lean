import Derived.Test.YthlnahomjdcbeaaDoorFc
set_option autoImplicit false
set_option linter.unusedSimpArgs false
set_option linter.unusedVariables false
namespace Go.Proofs.YthlnahomjdcbeaaDoor
open Go.Den
theorem maskN_add {p q : Nat → Bool} (h : ∀ i, p i = true → q i = false) : ∀ n, maskN p n + maskN q n = maskN (fun i => p i || q i) n
  | 0 => rfl
  | n + 1 => by
    have ih := maskN_add h n
    have h0 := h n
    show (maskN p n + if p n = true then 2 ^ n else 0) + (maskN q n + if q n = true then 2 ^ n else 0) = maskN (fun i => p i || q i) n + if (p n || q n) = true then 2 ^ n else 0
    generalize p n = x at h0 ⊢
    generalize q n = y at h0 ⊢
    cases x <;> cases y <;> simp at h0 ⊢ <;> omega
theorem maskN_and {a : Nat} (b : Nat) {n : Nat} (ha : a < 2 ^ n) : maskN (fun i => a.testBit i && b.testBit i) n = a &&& b := by
  refine Nat.eq_of_testBit_eq fun i => ?_
  rw [maskN_bit, Nat.testBit_and]
  by_cases hi : i < n
  · simp [hi]
  · have : a.testBit i = false := Nat.testBit_lt_two_pow (Nat.lt_of_lt_of_le ha (Nat.pow_le_pow_right (by decide) (by omega)))
    simp [this]
theorem add_or {x y : Nat} (hx : x < 2 ^ 63) (hy : y < 2 ^ 63) (h : ∀ i, x.testBit i = true → y.testBit i = false) : x + y = x ||| y := by
  have := maskN_add h 63
  rw [maskN_self hx, maskN_self hy] at this
  rw [this]
  refine Nat.eq_of_testBit_eq fun i => ?_
  rw [maskN_bit, Nat.testBit_or]
  by_cases hi : i < 63
  · simp [hi]
  · have h1 : x.testBit i = false := Nat.testBit_lt_two_pow (Nat.lt_of_lt_of_le hx (Nat.pow_le_pow_right (by decide) (by omega)))
    have h2 : y.testBit i = false := Nat.testBit_lt_two_pow (Nat.lt_of_lt_of_le hy (Nat.pow_le_pow_right (by decide) (by omega)))
    simp [h1, h2]
/-- The bits of a that b has not. -/
def andn (a b : Nat) : Nat := maskN (fun i => a.testBit i && !b.testBit i) 63
theorem andn_lt (a b : Nat) : andn a b < 2 ^ 63 := maskN_lt _ _
theorem andn_bit {a : Nat} (b i : Nat) (ha : a < 2 ^ 63) : (andn a b).testBit i = (a.testBit i && !b.testBit i) := by
  unfold andn
  rw [maskN_bit]
  by_cases hi : i < 63
  · simp [hi]
  · have h1 : a.testBit i = false := Nat.testBit_lt_two_pow (Nat.lt_of_lt_of_le ha (Nat.pow_le_pow_right (by decide) (by omega)))
    simp [h1]
theorem andn_sub {a : Nat} (b : Nat) (ha : a < 2 ^ 63) : andn a b + (a &&& b) = a := by
  have := maskN_add (p := fun i => a.testBit i && !b.testBit i) (q := fun i => a.testBit i && b.testBit i) (fun i h => by simp at h ⊢; intro _; exact h.2) 63
  rw [maskN_and b ha] at this
  unfold andn
  rw [this]
  conv => rhs; rw [← maskN_self ha]
  refine maskN_congr fun i _ => ?_
  cases a.testBit i <;> cases b.testBit i <;> rfl
theorem andn_i64 {a b : Nat} (ha : a < 2 ^ 63) (hb : b < 2 ^ 63) : IntKind.i64.wrap ((BitVec.ofInt IntKind.i64.bits (a : Int) &&& ~~~ BitVec.ofInt IntKind.i64.bits (b : Int)).toNat : Int) = ((andn a b : Nat) : Int) := by
  have h1 : (BitVec.ofInt 64 (a : Int) &&& ~~~ BitVec.ofInt 64 (b : Int)).toNat = andn a b := by
    refine Nat.eq_of_testBit_eq fun i => ?_
    rw [andn_bit _ _ ha, BitVec.testBit_toNat, BitVec.getLsbD_and, BitVec.getLsbD_not, BitVec.ofInt_natCast, BitVec.ofInt_natCast, BitVec.getLsbD_ofNat, BitVec.getLsbD_ofNat]
    by_cases hi : i < 64
    · simp [hi]
    · have h1 : a.testBit i = false := Nat.testBit_lt_two_pow (Nat.lt_of_lt_of_le ha (Nat.pow_le_pow_right (by decide) (by omega)))
      simp [h1]
  have h3 := andn_lt a b
  show IntKind.i64.wrap ((BitVec.ofInt 64 (a : Int) &&& ~~~ BitVec.ofInt 64 (b : Int)).toNat : Int) = _
  rw [h1]
  exact wrap_nat (by omega)
theorem xor_i64 {a b : Nat} (ha : a < 2 ^ 63) (hb : b < 2 ^ 63) : IntKind.i64.wrap ((BitVec.ofInt IntKind.i64.bits (a : Int) ^^^ BitVec.ofInt IntKind.i64.bits (b : Int)).toNat : Int) = ((a ^^^ b : Nat) : Int) := by
  have h1 : (BitVec.ofInt 64 (a : Int) ^^^ BitVec.ofInt 64 (b : Int)).toNat = a ^^^ b := by
    rw [BitVec.toNat_xor, BitVec.ofInt_natCast, BitVec.ofInt_natCast, BitVec.toNat_ofNat, BitVec.toNat_ofNat, Nat.mod_eq_of_lt (a := a) (by omega), Nat.mod_eq_of_lt (a := b) (by omega)]
  have h3 : a ^^^ b < 2 ^ 63 := Nat.xor_lt_two_pow ha hb
  show IntKind.i64.wrap ((BitVec.ofInt 64 (a : Int) ^^^ BitVec.ofInt 64 (b : Int)).toNat : Int) = _
  rw [h1]
  exact wrap_nat (by omega)
/-- The other one of a pair. -/
def opp (s : Nat) : Nat := s + 1 - 2 * (s % 2)
theorem xor_one (s : Nat) : s ^^^ 1 = opp s := by
  refine Nat.eq_of_testBit_eq fun i => ?_
  unfold opp
  rw [Nat.testBit_xor]
  rcases Nat.mod_two_eq_zero_or_one s with h | h
  · rw [h, Nat.mul_zero, Nat.sub_zero]
    cases i with
    | zero => rw [Nat.testBit_zero, Nat.testBit_zero, Nat.testBit_zero, h, show (s + 1) % 2 = 1 by omega]; rfl
    | succ i => rw [Nat.testBit_succ, Nat.testBit_succ, Nat.testBit_succ, show (s + 1) / 2 = s / 2 by omega, show 1 / 2 = 0 from rfl, Nat.zero_testBit, Bool.xor_false]
  · rw [h, Nat.mul_one, show s + 1 - 2 = s - 1 by omega]
    cases i with
    | zero => rw [Nat.testBit_zero, Nat.testBit_zero, Nat.testBit_zero, h, show (s - 1) % 2 = 0 by omega]; rfl
    | succ i => rw [Nat.testBit_succ, Nat.testBit_succ, Nat.testBit_succ, show (s - 1) / 2 = s / 2 by omega, show 1 / 2 = 0 from rfl, Nat.zero_testBit, Bool.xor_false]
theorem opp_lt {s L : Nat} (h : s < 2 * L) : opp s < 2 * L := by unfold opp; omega
theorem opp_div (s : Nat) : opp s / 2 = s / 2 := by unfold opp; omega
/-- The masks of a relation, each letter doubled. -/
def dblM (L m : Nat) : Nat := maskN (fun b => m.testBit (b / 2)) (2 * L)
def dblT (ms : List Nat) (i : Nat) : List Nat := (List.range i).map fun a => dblM ms.length (ms.getD (a / 2) 0)
def dblN (ms : List Nat) : List Nat := dblT ms (2 * ms.length)
theorem dblT_length (ms : List Nat) (i : Nat) : (dblT ms i).length = i := by simp [dblT]
theorem dblT_succ (ms : List Nat) (i : Nat) : dblT ms (i + 1) = dblT ms i ++ [dblM ms.length (ms.getD (i / 2) 0)] := by simp [dblT, List.range_succ]
theorem dblN_length (ms : List Nat) : (dblN ms).length = 2 * ms.length := dblT_length _ _
theorem dblN_get {ms : List Nat} {s : Nat} (h : s < (dblN ms).length) : (dblN ms)[s] = dblM ms.length (ms.getD (s / 2) 0) := by simp [dblN, dblT]
theorem dblM_lt (L m : Nat) : dblM L m < 2 ^ (2 * L) := maskN_lt _ _
/-- A mask of which the first members are doubled. -/
def dblP (L m j : Nat) : Nat := maskN (fun b => decide (b / 2 ∈ (mems m).take j)) (2 * L)
theorem dblP_zero (L m : Nat) : dblP L m 0 = 0 := by
  refine Nat.eq_of_testBit_eq fun i => ?_
  simp [dblP, maskN_bit]
theorem dblP_lt (L m j : Nat) : dblP L m j < 2 ^ (2 * L) := maskN_lt _ _
theorem three_bit (b i : Nat) : (3 * 2 ^ (2 * b)).testBit i = decide (i / 2 = b) := by
  rw [Nat.testBit_mul_two_pow]
  by_cases h : 2 * b ≤ i
  · obtain ⟨k, rfl⟩ : ∃ k, i = 2 * b + k := ⟨i - 2 * b, by omega⟩
    rw [Nat.add_sub_cancel_left]
    have h3 : (3 : Nat).testBit k = decide (k < 2) := by
      rw [show (3 : Nat) = 2 ^ 2 - 1 from rfl, Nat.testBit_two_pow_sub_one]
    rw [h3, decide_eq_true h, Bool.true_and, decide_eq_decide]
    omega
  · rw [decide_eq_false h, Bool.false_and]
    exact (decide_eq_false (by omega)).symm
theorem dblP_step {L m j : Nat} (hj : j < (mems m).length) (hb : (mems m)[j] < L) : dblP L m j ||| 3 * 2 ^ (2 * (mems m)[j]) = dblP L m (j + 1) := by
  refine Nat.eq_of_testBit_eq fun i => ?_
  rw [Nat.testBit_or, three_bit, dblP, dblP, maskN_bit, maskN_bit, List.take_succ_eq_append_getElem hj]
  by_cases hi : i < 2 * L
  · rw [decide_eq_true hi, Bool.true_and, Bool.true_and, ← Bool.decide_or, decide_eq_decide, List.mem_append, List.mem_singleton]
  · have : ¬ i / 2 = (mems m)[j] := by omega
    simp [hi, this]
theorem dblP_full {L m : Nat} (hL : L ≤ 8) : dblP L m (mems m).length = dblM L m := by
  unfold dblP dblM
  refine maskN_congr fun i hi => ?_
  rw [List.take_length]
  unfold mems
  simp only [List.mem_filter, List.mem_range]
  have : i / 2 < 64 := by omega
  simp [this]
/-- Which letters can't follow when s follows those that mask bars. -/
def nxt (D : List Nat) (mask s : Nat) : Nat := andn (mask ||| (2 ^ s - 1)) (D.getD s 0) ||| 2 ^ opp s
theorem mask_lt {W mask s : Nat} (hm : mask < 2 ^ W) (hs : s < W) : mask ||| (2 ^ s - 1) < 2 ^ W := by
  refine Nat.or_lt_two_pow hm ?_
  have := Nat.pow_lt_pow_right (a := 2) (by decide) hs
  omega
theorem nxt_lt {D : List Nat} {L mask s : Nat} (hL : L ≤ 8) (hm : mask < 2 ^ (2 * L)) (hs : s < 2 * L) : nxt D mask s < 2 ^ (2 * L) := by
  have h1 := mask_lt hm hs
  unfold nxt
  refine Nat.or_lt_two_pow ?_ (Nat.pow_lt_pow_right (by decide) (opp_lt hs))
  have h63 : mask ||| (2 ^ s - 1) < 2 ^ 63 := Nat.lt_of_lt_of_le h1 (Nat.pow_le_pow_right (by decide) (by omega))
  have := andn_sub (D.getD s 0) h63
  omega
/-- The sum of the first i. -/
def sumN (f : Nat → Nat) : Nat → Nat
  | 0 => 0
  | i + 1 => sumN f i + f i
theorem sumN_le {f : Nat → Nat} {c : Nat} (h : ∀ i, f i ≤ c) : ∀ n, sumN f n ≤ n * c
  | 0 => by simp [sumN]
  | n + 1 => by
    have := sumN_le h n
    have := h n
    rw [Nat.succ_mul]
    simp only [sumN]
    omega
/-- How many ways there are to go on with n letters, up to one more than c. -/
def cnt (D : List Nat) : Nat → Nat → Nat
  | 0, _ => 1
  | n + 1, mask => min (sumN (fun s => if mask.testBit s then 0 else cnt D n (nxt D mask s)) D.length) 1000000000000001
theorem cnt_le (D : List Nat) : ∀ n mask, cnt D n mask ≤ 1000000000000001
  | 0, _ => by simp [cnt]
  | n + 1, _ => by rw [cnt]; exact Nat.min_le_right _ _
def trm (D : List Nat) (n mask : Nat) (s : Nat) : Nat := if mask.testBit s then 0 else cnt D n (nxt D mask s)
theorem trm_le (D : List Nat) (n mask s : Nat) : trm D n mask s ≤ 1000000000000001 := by
  unfold trm
  split
  · omega
  · exact cnt_le _ _ _
theorem cnt_succ (D : List Nat) (n mask : Nat) : cnt D (n + 1) mask = min (sumN (trm D n mask) D.length) 1000000000000001 := rfl
theorem natI_getD {ms : List Nat} {i : Nat} (h : i < ms.length) : (natI ms)[i]'(by rw [natI_length]; exact h) = ((ms.getD i 0 : Nat) : Int) := by
  rw [natI_get, List.getD_eq_getElem?_getD, List.getElem?_eq_getElem h, Option.getD_some]
theorem getD_lt {ms : List Nat} {W i : Nat} (h : ∀ m ∈ ms, m < 2 ^ W) (hi : i < ms.length) (hW : W ≤ 63) : ms.getD i 0 < 2 ^ 63 := by
  rw [List.getD_eq_getElem?_getD, List.getElem?_eq_getElem hi, Option.getD_some]
  exact Nat.lt_of_lt_of_le (h _ (List.getElem_mem hi)) (Nat.pow_le_pow_right (by decide) hW)
set_option maxHeartbeats 4000000 in
set_option maxRecDepth 100000 in
theorem l02Dep_ret (n : Int) (ms : List Nat) (a b : Nat) (ha : a < ms.length) (hb : b < 64) (hl : ms.length ≤ 24) (hm : ∀ m ∈ ms, m < 2 ^ ms.length) : Ret Tryd.prog G0 67 [⟨.ro, .agg [i64 n, ints (natI ms)]⟩, ⟨.ro, .one (i64 a)⟩, ⟨.ro, .one (i64 b)⟩] ⟨.one (.c (.bool ((ms.getD a 0).testBit b))), []⟩ := by
  (refine ret_of_den (E := en 14 [] (fun _ => [])) tt_ok mixed Tryd.func67 rfl rfl rfl rfl ?_; refine ⟨by simp, ?_⟩)
  have hg := natI_getD ha
  have hn := natI_length ms
  have h63 := getD_lt hm ha (by omega)
  repeat' (first | (refine opt_some (getC_rows rfl rfl (by omega)) ?_; conv => whnf) | (refine opt_some rfl ?_; conv => whnf) | (refine ⟨_, (by simp only [nf, nl, nm, en, ints, Nat.reduceAdd, Nat.reduceMul, hg]; exact rfl), ?_⟩; conv => whnf) | (refine ⟨_, pick_at rfl (by first | exact Nat.le_of_ble_eq_true rfl | rfl | exact plain_i64 _ | exact plain_ints _ | exact all_ints _ | omega | (dsimp only; omega) | (simp; done) | (simp only [htf] at *; first | omega | (simp; omega))), ?_⟩; conv => whnf) | (refine ⟨_, rfl, ?_⟩; conv => whnf) | (first | refine iteP_true rfl ?_ | refine iteP_false rfl ?_ | refine iteP_true ‹_› ?_ | refine iteP_false ‹_› ?_; conv => whnf) | (refine And.intro (by kernel_rfl : indep _ _ = true) ?_; conv => whnf) | (refine And.intro (by rfl : List.all _ _ = true) ?_; conv => whnf) | (refine And.intro (by first | exact Nat.le_of_ble_eq_true rfl | rfl | exact plain_i64 _ | exact plain_ints _ | exact all_ints _ | omega | (dsimp only; omega) | (simp; done) | (simp only [htf] at *; first | omega | (simp; omega))) ?_; conv => whnf) | (refine iteP_intro (fun hb => ?_) (fun hb => ?_) <;> (conv => whnf)))
  (refine ⟨_, l01Bit_ret _ b h63 hb, ?_⟩; conv => whnf)
  repeat' (first | (refine opt_some (getC_rows rfl rfl (by omega)) ?_; conv => whnf) | (refine opt_some rfl ?_; conv => whnf) | (refine ⟨_, (by simp only [nf, nl, nm, en, ints, Nat.reduceAdd, Nat.reduceMul]; exact rfl), ?_⟩; conv => whnf) | (refine ⟨_, pick_at rfl (by first | exact Nat.le_of_ble_eq_true rfl | rfl | exact plain_i64 _ | exact plain_ints _ | exact all_ints _ | omega | (dsimp only; omega) | (simp; done) | (simp only [htf] at *; first | omega | (simp; omega))), ?_⟩; conv => whnf) | (refine ⟨_, rfl, ?_⟩; conv => whnf) | (first | refine iteP_true rfl ?_ | refine iteP_false rfl ?_ | refine iteP_true ‹_› ?_ | refine iteP_false ‹_› ?_; conv => whnf) | (refine And.intro (by kernel_rfl : indep _ _ = true) ?_; conv => whnf) | (refine And.intro (by rfl : List.all _ _ = true) ?_; conv => whnf) | (refine And.intro (by first | exact Nat.le_of_ble_eq_true rfl | rfl | exact plain_i64 _ | exact plain_ints _ | exact all_ints _ | omega | (dsimp only; omega) | (simp; done) | (simp only [htf] at *; first | omega | (simp; omega))) ?_; conv => whnf) | (refine iteP_intro (fun hb => ?_) (fun hb => ?_) <;> (conv => whnf)))
  rfl
set_option maxHeartbeats 4000000 in
set_option maxRecDepth 100000 in
theorem l09Opp_ret (s : Nat) (hs : s < 64) : Ret Tryd.prog G0 83 [⟨.ro, .one (i64 s)⟩] ⟨.one (i64 (opp s : Nat)), []⟩ := by
  (refine ret_of_den (E := en 9 [] (fun _ => [])) tt_ok mixed Tryd.func83 rfl rfl rfl rfl ?_; refine ⟨by simp, ?_⟩)
  have h1 : (s : Int).tmod 2 = ((s % 2 : Nat) : Int) := rfl
  have h2 : IntKind.i64.wrap ((s : Int) + 1) = (s : Int) + 1 := wrap_i64 (by omega) (by omega)
  have h3 : IntKind.i64.wrap (2 * ((s % 2 : Nat) : Int)) = 2 * ((s % 2 : Nat) : Int) := wrap_i64 (by omega) (by omega)
  have h4 : IntKind.i64.wrap ((s : Int) + 1 - 2 * ((s % 2 : Nat) : Int)) = ((opp s : Nat) : Int) := by
    rw [wrap_i64 (by omega) (by omega)]
    unfold opp
    omega
  repeat' (first | (refine opt_some (getC_rows rfl rfl (by omega)) ?_; conv => whnf) | (refine opt_some rfl ?_; conv => whnf) | (refine ⟨_, (by simp only [nf, nl, nm, en, ints, Nat.reduceAdd, Nat.reduceMul, h1, h2, h3, h4]; exact rfl), ?_⟩; conv => whnf) | (refine ⟨_, pick_at rfl (by first | exact Nat.le_of_ble_eq_true rfl | rfl | exact plain_i64 _ | exact plain_ints _ | exact all_ints _ | omega | (dsimp only; omega) | (simp; done) | (simp only [htf] at *; first | omega | (simp; omega))), ?_⟩; conv => whnf) | (refine ⟨_, rfl, ?_⟩; conv => whnf) | (first | refine iteP_true rfl ?_ | refine iteP_false rfl ?_ | refine iteP_true ‹_› ?_ | refine iteP_false ‹_› ?_; conv => whnf) | (refine And.intro (by kernel_rfl : indep _ _ = true) ?_; conv => whnf) | (refine And.intro (by rfl : List.all _ _ = true) ?_; conv => whnf) | (refine And.intro (by first | exact Nat.le_of_ble_eq_true rfl | rfl | exact plain_i64 _ | exact plain_ints _ | exact all_ints _ | omega | (dsimp only; omega) | (simp; done) | (simp only [htf] at *; first | omega | (simp; omega))) ?_; conv => whnf) | (refine iteP_intro (fun hb => ?_) (fun hb => ?_) <;> (conv => whnf)))
  rfl
set_option maxHeartbeats 4000000 in
set_option maxRecDepth 100000 in
theorem forbidden_ret (D : List Nat) (shut s : Nat) (hs : s < D.length) (hD : D.length ≤ 32) (hm : ∀ m ∈ D, m < 2 ^ D.length) (hsh : shut < 2 ^ D.length) : Ret Tryd.prog G0 71 [⟨.ro, .one (ints (natI D))⟩, ⟨.ro, .one (i64 shut)⟩, ⟨.ro, .one (i64 s)⟩] ⟨.one (i64 (andn (shut ||| (2 ^ s - 1)) (D.getD s 0) : Nat)), []⟩ := by
  (refine ret_of_den (E := en 17 [] (fun _ => [])) tt_ok mixed Tryd.func71 rfl rfl rfl rfl ?_; refine ⟨by simp, ?_⟩)
  have hg := natI_getD hs
  have hn := natI_length D
  have h63 := getD_lt hm hs (by omega)
  have hlt := mask_lt hsh hs
  have hlt2 : shut ||| (2 ^ s - 1) < 2 ^ 63 := Nat.lt_of_lt_of_le hlt (Nat.pow_le_pow_right (by decide) (by omega))
  have hp := pow_i64 (i := s) (by omega)
  have hp1 := Nat.two_pow_pos s
  have hs63 : shut < 2 ^ 63 := Nat.lt_of_lt_of_le hsh (Nat.pow_le_pow_right (by decide) (by omega))
  have h1 : IntKind.i64.wrap (((2 ^ s : Nat) : Int) - 1) = ((2 ^ s - 1 : Nat) : Int) := by rw [wrap_i64 (by omega) (by omega)]; omega
  have h2 := or_i64 (a := shut) (b := 2 ^ s - 1) hs63 (by omega)
  have h3 := andn_i64 (a := shut ||| (2 ^ s - 1)) (b := D.getD s 0) hlt2 h63
  repeat' (first | (refine opt_some (getC_rows rfl rfl (by omega)) ?_; conv => whnf) | (refine opt_some rfl ?_; conv => whnf) | (refine ⟨_, (by simp only [nf, nl, nm, en, ints, Nat.reduceAdd, Nat.reduceMul]; exact rfl), ?_⟩; conv => whnf) | (refine ⟨_, pick_at rfl (by first | exact Nat.le_of_ble_eq_true rfl | rfl | exact plain_i64 _ | exact plain_ints _ | exact all_ints _ | omega | (dsimp only; omega) | (simp; done) | (simp only [htf] at *; first | omega | (simp; omega))), ?_⟩; conv => whnf) | (refine ⟨_, rfl, ?_⟩; conv => whnf) | (first | refine iteP_true rfl ?_ | refine iteP_false rfl ?_ | refine iteP_true ‹_› ?_ | refine iteP_false ‹_› ?_; conv => whnf) | (refine And.intro (by kernel_rfl : indep _ _ = true) ?_; conv => whnf) | (refine And.intro (by rfl : List.all _ _ = true) ?_; conv => whnf) | (refine And.intro (by first | exact Nat.le_of_ble_eq_true rfl | rfl | exact plain_i64 _ | exact plain_ints _ | exact all_ints _ | omega | (dsimp only; omega) | (simp; done) | (simp only [htf] at *; first | omega | (simp; omega))) ?_; conv => whnf) | (refine iteP_intro (fun hb => ?_) (fun hb => ?_) <;> (conv => whnf)))
  (refine ⟨_, one_retN s (by omega), ?_⟩; conv => whnf)
  repeat' (first | (refine opt_some (getC_rows rfl rfl (by omega)) ?_; conv => whnf) | (refine opt_some rfl ?_; conv => whnf) | (refine ⟨_, (by simp only [nf, nl, nm, en, ints, Nat.reduceAdd, Nat.reduceMul, hg, h1, h2, h3]; exact rfl), ?_⟩; conv => whnf) | (refine ⟨_, pick_at rfl (by first | exact Nat.le_of_ble_eq_true rfl | rfl | exact plain_i64 _ | exact plain_ints _ | exact all_ints _ | omega | (dsimp only; omega) | (simp; done) | (simp only [htf] at *; first | omega | (simp; omega))), ?_⟩; conv => whnf) | (refine ⟨_, rfl, ?_⟩; conv => whnf) | (first | refine iteP_true rfl ?_ | refine iteP_false rfl ?_ | refine iteP_true ‹_› ?_ | refine iteP_false ‹_› ?_; conv => whnf) | (refine And.intro (by kernel_rfl : indep _ _ = true) ?_; conv => whnf) | (refine And.intro (by rfl : List.all _ _ = true) ?_; conv => whnf) | (refine And.intro (by first | exact Nat.le_of_ble_eq_true rfl | rfl | exact plain_i64 _ | exact plain_ints _ | exact all_ints _ | omega | (dsimp only; omega) | (simp; done) | (simp only [htf] at *; first | omega | (simp; omega))) ?_; conv => whnf) | (refine iteP_intro (fun hb => ?_) (fun hb => ?_) <;> (conv => whnf)))
  rfl
set_option maxHeartbeats 4000000 in
set_option maxRecDepth 100000 in
theorem l09After_ret (n : Int) (D : List Nat) (mask s : Nat) (hs : s < D.length) (hD : D.length ≤ 32) (he : D.length % 2 = 0) (hm : ∀ m ∈ D, m < 2 ^ D.length) (hmk : mask < 2 ^ D.length) (ho : (D.getD s 0).testBit (opp s) = true) : Ret Tryd.prog G0 69 [⟨.ro, .agg [i64 n, ints (natI D)]⟩, ⟨.ro, .one (i64 mask)⟩, ⟨.ro, .one (i64 s)⟩] ⟨.one (i64 (nxt D mask s : Nat)), []⟩ := by
  (refine ret_of_den (E := en 24 [] (fun _ => [])) tt_ok mixed Tryd.func69 rfl rfl rfl rfl ?_; refine ⟨by simp, ?_⟩)
  have hg := natI_getD hs
  have hn := natI_length D
  have h63 := getD_lt hm hs (by omega)
  have hlt := mask_lt hmk hs
  have hlt2 : mask ||| (2 ^ s - 1) < 2 ^ 63 := Nat.lt_of_lt_of_le hlt (Nat.pow_le_pow_right (by decide) (by omega))
  have hp := pow_i64 (i := s) (by omega)
  have hp1 := Nat.two_pow_pos s
  have hs63 : mask < 2 ^ 63 := Nat.lt_of_lt_of_le hmk (Nat.pow_le_pow_right (by decide) (by omega))
  have h0 : ((2 ^ s : Nat) : Int) - 1 = ((2 ^ s - 1 : Nat) : Int) := by omega
  have h2 := or_i64 (a := mask) (b := 2 ^ s - 1) hs63 (by omega)
  have h3 := and_i64 (a := mask ||| (2 ^ s - 1)) (b := D.getD s 0) hlt2
  have h4 := andn_sub (D.getD s 0) hlt2
  have h5 : IntKind.i64.wrap ((((mask ||| (2 ^ s - 1) : Nat)) : Int) - ((((mask ||| (2 ^ s - 1)) &&& D.getD s 0 : Nat)) : Int)) = ((andn (mask ||| (2 ^ s - 1)) (D.getD s 0) : Nat) : Int) := by
    rw [wrap_i64 (by omega) (by omega)]; omega
  have hop : opp s < 62 := by unfold opp; omega
  have hpo := pow_i64 (i := opp s) (by omega)
  have hal := andn_lt (mask ||| (2 ^ s - 1)) (D.getD s 0)
  have hdis := add_or hal hpo fun i hi => by
    rw [andn_bit _ _ hlt2] at hi
    rw [Nat.testBit_two_pow]
    refine decide_eq_false fun e => ?_
    subst e
    rw [ho] at hi
    simp at hi
  have hal2 : andn (mask ||| (2 ^ s - 1)) (D.getD s 0) ≤ mask ||| (2 ^ s - 1) := by omega
  have hal3 : mask ||| (2 ^ s - 1) < 2 ^ 32 := Nat.lt_of_lt_of_le hlt (Nat.pow_le_pow_right (by decide) hD)
  have hpo2 : 2 ^ opp s < 2 ^ 62 := Nat.pow_lt_pow_right (by decide) hop
  have h6 : IntKind.i64.wrap (((andn (mask ||| (2 ^ s - 1)) (D.getD s 0) : Nat) : Int) + ((2 ^ opp s : Nat) : Int)) = ((nxt D mask s : Nat) : Int) := by
    rw [wrap_i64 (by omega) (by omega)]
    unfold nxt
    omega
  repeat' (first | (refine opt_some (getC_rows rfl rfl (by omega)) ?_; conv => whnf) | (refine opt_some rfl ?_; conv => whnf) | (refine ⟨_, (by simp only [nf, nl, nm, en, ints, Nat.reduceAdd, Nat.reduceMul]; exact rfl), ?_⟩; conv => whnf) | (refine ⟨_, pick_at rfl (by first | exact Nat.le_of_ble_eq_true rfl | rfl | exact plain_i64 _ | exact plain_ints _ | exact all_ints _ | omega | (dsimp only; omega) | (simp; done) | (simp only [htf] at *; first | omega | (simp; omega))), ?_⟩; conv => whnf) | (refine ⟨_, rfl, ?_⟩; conv => whnf) | (first | refine iteP_true rfl ?_ | refine iteP_false rfl ?_ | refine iteP_true ‹_› ?_ | refine iteP_false ‹_› ?_; conv => whnf) | (refine And.intro (by kernel_rfl : indep _ _ = true) ?_; conv => whnf) | (refine And.intro (by rfl : List.all _ _ = true) ?_; conv => whnf) | (refine And.intro (by first | exact Nat.le_of_ble_eq_true rfl | rfl | exact plain_i64 _ | exact plain_ints _ | exact all_ints _ | omega | (dsimp only; omega) | (simp; done) | (simp only [htf] at *; first | omega | (simp; omega))) ?_; conv => whnf) | (refine iteP_intro (fun hb => ?_) (fun hb => ?_) <;> (conv => whnf)))
  (refine ⟨_, l01Full_ret s (by omega), ?_⟩; conv => whnf)
  repeat' (first | (refine opt_some (getC_rows rfl rfl (by omega)) ?_; conv => whnf) | (refine opt_some rfl ?_; conv => whnf) | (refine ⟨_, (by simp only [nf, nl, nm, en, ints, Nat.reduceAdd, Nat.reduceMul, h0, h2]; exact rfl), ?_⟩; conv => whnf) | (refine ⟨_, pick_at rfl (by first | exact Nat.le_of_ble_eq_true rfl | rfl | exact plain_i64 _ | exact plain_ints _ | exact all_ints _ | omega | (dsimp only; omega) | (simp; done) | (simp only [htf] at *; first | omega | (simp; omega))), ?_⟩; conv => whnf) | (refine ⟨_, rfl, ?_⟩; conv => whnf) | (first | refine iteP_true rfl ?_ | refine iteP_false rfl ?_ | refine iteP_true ‹_› ?_ | refine iteP_false ‹_› ?_; conv => whnf) | (refine And.intro (by kernel_rfl : indep _ _ = true) ?_; conv => whnf) | (refine And.intro (by rfl : List.all _ _ = true) ?_; conv => whnf) | (refine And.intro (by first | exact Nat.le_of_ble_eq_true rfl | rfl | exact plain_i64 _ | exact plain_ints _ | exact all_ints _ | omega | (dsimp only; omega) | (simp; done) | (simp only [htf] at *; first | omega | (simp; omega))) ?_; conv => whnf) | (refine iteP_intro (fun hb => ?_) (fun hb => ?_) <;> (conv => whnf)))
  (refine ⟨_, l09Opp_ret s (by omega), ?_⟩; conv => whnf)
  repeat' (first | (refine opt_some (getC_rows rfl rfl (by omega)) ?_; conv => whnf) | (refine opt_some rfl ?_; conv => whnf) | (refine ⟨_, (by simp only [nf, nl, nm, en, ints, Nat.reduceAdd, Nat.reduceMul, hg, h0, h2, h3, h5]; exact rfl), ?_⟩; conv => whnf) | (refine ⟨_, pick_at rfl (by first | exact Nat.le_of_ble_eq_true rfl | rfl | exact plain_i64 _ | exact plain_ints _ | exact all_ints _ | omega | (dsimp only; omega) | (simp; done) | (simp only [htf] at *; first | omega | (simp; omega))), ?_⟩; conv => whnf) | (refine ⟨_, rfl, ?_⟩; conv => whnf) | (first | refine iteP_true rfl ?_ | refine iteP_false rfl ?_ | refine iteP_true ‹_› ?_ | refine iteP_false ‹_› ?_; conv => whnf) | (refine And.intro (by kernel_rfl : indep _ _ = true) ?_; conv => whnf) | (refine And.intro (by rfl : List.all _ _ = true) ?_; conv => whnf) | (refine And.intro (by first | exact Nat.le_of_ble_eq_true rfl | rfl | exact plain_i64 _ | exact plain_ints _ | exact all_ints _ | omega | (dsimp only; omega) | (simp; done) | (simp only [htf] at *; first | omega | (simp; omega))) ?_; conv => whnf) | (refine iteP_intro (fun hb => ?_) (fun hb => ?_) <;> (conv => whnf)))
  (refine ⟨_, l01One_ret (opp s) (by omega), ?_⟩; conv => whnf)
  repeat' (first | (refine opt_some (getC_rows rfl rfl (by omega)) ?_; conv => whnf) | (refine opt_some rfl ?_; conv => whnf) | (refine ⟨_, (by simp only [nf, nl, nm, en, ints, Nat.reduceAdd, Nat.reduceMul, hg, h0, h2, h3, h5, h6]; exact rfl), ?_⟩; conv => whnf) | (refine ⟨_, pick_at rfl (by first | exact Nat.le_of_ble_eq_true rfl | rfl | exact plain_i64 _ | exact plain_ints _ | exact all_ints _ | omega | (dsimp only; omega) | (simp; done) | (simp only [htf] at *; first | omega | (simp; omega))), ?_⟩; conv => whnf) | (refine ⟨_, rfl, ?_⟩; conv => whnf) | (first | refine iteP_true rfl ?_ | refine iteP_false rfl ?_ | refine iteP_true ‹_› ?_ | refine iteP_false ‹_› ?_; conv => whnf) | (refine And.intro (by kernel_rfl : indep _ _ = true) ?_; conv => whnf) | (refine And.intro (by rfl : List.all _ _ = true) ?_; conv => whnf) | (refine And.intro (by first | exact Nat.le_of_ble_eq_true rfl | rfl | exact plain_i64 _ | exact plain_ints _ | exact all_ints _ | omega | (dsimp only; omega) | (simp; done) | (simp only [htf] at *; first | omega | (simp; omega))) ?_; conv => whnf) | (refine iteP_intro (fun hb => ?_) (fun hb => ?_) <;> (conv => whnf)))
  rfl
set_option maxHeartbeats 4000000 in
set_option maxRecDepth 100000 in
theorem l06Code_ret (n m : Int) (ds : List Int) (hd : ds.length < 2 ^ 62) : Ret Tryd.prog G0 45 [⟨.ro, .agg [i64 n, ints ds]⟩, ⟨.ro, .one (i64 m)⟩] ⟨.one (i64 (if alphaOk n ds then (if 0 ≤ m ∧ m ≤ 24 then 0 else 2) else 1)), []⟩ := by
  (refine ret_of_den (E := en 11 [] (fun _ => [])) tt_ok mixed Tryd.func45 rfl rfl rfl rfl ?_; refine ⟨by simp, ?_⟩)
  repeat' (first | (refine opt_some (getC_rows rfl rfl (by omega)) ?_; conv => whnf) | (refine opt_some rfl ?_; conv => whnf) | (refine ⟨_, (by simp only [nf, nl, nm, en, ints, Nat.reduceAdd, Nat.reduceMul]; exact rfl), ?_⟩; conv => whnf) | (refine ⟨_, pick_at rfl (by first | exact Nat.le_of_ble_eq_true rfl | rfl | exact plain_i64 _ | exact plain_ints _ | exact all_ints _ | omega | (dsimp only; omega) | (simp; done) | (simp only [htf] at *; first | omega | (simp; omega))), ?_⟩; conv => whnf) | (refine ⟨_, rfl, ?_⟩; conv => whnf) | (first | refine iteP_true rfl ?_ | refine iteP_false rfl ?_ | refine iteP_true ‹_› ?_ | refine iteP_false ‹_› ?_; conv => whnf) | (refine And.intro (by kernel_rfl : indep _ _ = true) ?_; conv => whnf) | (refine And.intro (by rfl : List.all _ _ = true) ?_; conv => whnf) | (refine And.intro (by first | exact Nat.le_of_ble_eq_true rfl | rfl | exact plain_i64 _ | exact plain_ints _ | exact all_ints _ | omega | (dsimp only; omega) | (simp; done) | (simp only [htf] at *; first | omega | (simp; omega))) ?_; conv => whnf) | (refine iteP_intro (fun hb => ?_) (fun hb => ?_) <;> (conv => whnf)))
  (refine ⟨_, l02Is_ret n ds hd, ?_⟩; conv => whnf)
  repeat' (first | (refine opt_some (getC_rows rfl rfl (by omega)) ?_; conv => whnf) | (refine opt_some rfl ?_; conv => whnf) | (refine ⟨_, (by simp only [nf, nl, nm, en, ints, Nat.reduceAdd, Nat.reduceMul]; exact rfl), ?_⟩; conv => whnf) | (refine ⟨_, pick_at rfl (by first | exact Nat.le_of_ble_eq_true rfl | rfl | exact plain_i64 _ | exact plain_ints _ | exact all_ints _ | omega | (dsimp only; omega) | (simp; done) | (simp only [htf] at *; first | omega | (simp; omega))), ?_⟩; conv => whnf) | (refine ⟨_, rfl, ?_⟩; conv => whnf) | (first | refine iteP_true rfl ?_ | refine iteP_false rfl ?_ | refine iteP_true ‹_› ?_ | refine iteP_false ‹_› ?_; conv => whnf) | (refine And.intro (by kernel_rfl : indep _ _ = true) ?_; conv => whnf) | (refine And.intro (by rfl : List.all _ _ = true) ?_; conv => whnf) | (refine And.intro (by first | exact Nat.le_of_ble_eq_true rfl | rfl | exact plain_i64 _ | exact plain_ints _ | exact all_ints _ | omega | (dsimp only; omega) | (simp; done) | (simp only [htf] at *; first | omega | (simp; omega))) ?_; conv => whnf) | (refine iteP_intro (fun hb => ?_) (fun hb => ?_) <;> (conv => whnf)))
  · refine endI ?_
    rw [show alphaOk n ds = false by simpa using hb]
    rfl
  · have ha : alphaOk n ds = true := by simpa using hb
    (refine ⟨_, l01In_ret _ _ _, ?_⟩; conv => whnf)
    repeat' (first | (refine opt_some (getC_rows rfl rfl (by omega)) ?_; conv => whnf) | (refine opt_some rfl ?_; conv => whnf) | (refine ⟨_, (by simp only [nf, nl, nm, en, ints, Nat.reduceAdd, Nat.reduceMul]; exact rfl), ?_⟩; conv => whnf) | (refine ⟨_, pick_at rfl (by first | exact Nat.le_of_ble_eq_true rfl | rfl | exact plain_i64 _ | exact plain_ints _ | exact all_ints _ | omega | (dsimp only; omega) | (simp; done) | (simp only [htf] at *; first | omega | (simp; omega))), ?_⟩; conv => whnf) | (refine ⟨_, rfl, ?_⟩; conv => whnf) | (first | refine iteP_true rfl ?_ | refine iteP_false rfl ?_ | refine iteP_true ‹_› ?_ | refine iteP_false ‹_› ?_; conv => whnf) | (refine And.intro (by kernel_rfl : indep _ _ = true) ?_; conv => whnf) | (refine And.intro (by rfl : List.all _ _ = true) ?_; conv => whnf) | (refine And.intro (by first | exact Nat.le_of_ble_eq_true rfl | rfl | exact plain_i64 _ | exact plain_ints _ | exact all_ints _ | omega | (dsimp only; omega) | (simp; done) | (simp only [htf] at *; first | omega | (simp; omega))) ?_; conv => whnf) | (refine iteP_intro (fun hb => ?_) (fun hb => ?_) <;> (conv => whnf)))
    · refine endI ?_
      rw [ha, if_pos rfl, if_neg (by simp at hb; omega)]
    · refine endI ?_
      rw [ha, if_pos rfl, if_pos (by simpa using hb)]
set_option maxHeartbeats 4000000 in
set_option maxRecDepth 100000 in
theorem signedTies_ret (n : Int) (ms : List Nat) (hl : ms.length ≤ 8) (hm : ∀ m ∈ ms, m < 2 ^ ms.length) : Ret Tryd.prog G0 50 [⟨.ro, .agg [i64 n, ints (natI ms)]⟩] ⟨.one (ints (natI (dblN ms))), []⟩ := by
  have hnl := natI_length ms
  (refine ret_of_den (E := en 37 [] (fun | 3 => [(3, 0), (12, 0), (13, 0), (11, 1)] | 7 => [(3, 0), (12, 0), (13, 0), (6, 0), (18, 0), (19, 0), (20, 0), (11, 1)] | _ => [])) tt_ok mixed Tryd.func50 rfl rfl rfl rfl ?_; refine ⟨by simp, ?_⟩)
  repeat' (first | (refine opt_some (getC_rows rfl rfl (by omega)) ?_; conv => whnf) | (refine opt_some rfl ?_; conv => whnf) | (refine ⟨_, (by simp only [nf, nl, nm, en, ints, Nat.reduceAdd, Nat.reduceMul, Int.toNat_natCast]; exact rfl), ?_⟩; conv => whnf) | (refine ⟨_, pick_at rfl (by first | exact Nat.le_of_ble_eq_true rfl | rfl | exact plain_i64 _ | exact plain_ints _ | exact all_ints _ | omega | (dsimp only; omega) | (simp; done) | (simp only [htf] at *; first | omega | (simp; omega))), ?_⟩; conv => whnf) | (refine ⟨_, rfl, ?_⟩; conv => whnf) | (first | refine iteP_true rfl ?_ | refine iteP_false rfl ?_ | refine iteP_true ‹_› ?_ | refine iteP_false ‹_› ?_; conv => whnf) | (refine And.intro (by kernel_rfl : indep _ _ = true) ?_; conv => whnf) | (refine And.intro (by rfl : List.all _ _ = true) ?_; conv => whnf) | (refine And.intro (by first | exact Nat.le_of_ble_eq_true rfl | rfl | exact plain_i64 _ | exact plain_ints _ | exact all_ints _ | omega | (dsimp only; omega) | (simp; done) | (simp only [htf] at *; first | omega | (simp; omega))) ?_; conv => whnf) | (refine iteP_intro (fun hb => ?_) (fun hb => ?_) <;> (conv => whnf)))
  refine ⟨fun k vs => ∃ i : Nat, i ≤ ms.length ∧ vs = [.one (ints (natI (dblT ms (2 * i)))), .one (i64 ms.length), .one (i64 i), .one (.shd (ints (natI ms)))] ∧ k = ms.length - i, rfl, ⟨_, 0, by omega, ?_, rfl⟩, ?_⟩
  · simp only [ints, natI_length, dblT_length]; rfl
  · rintro k vs ⟨i, hi, rfl, rfl⟩
    have hdl := dblT_length ms (2 * i)
    have hdn := natI_length (dblT ms (2 * i))
    repeat (first | (refine opt_some (getC_rows rfl rfl (by omega)) ?_; conv => whnf) | (refine opt_some rfl ?_; conv => whnf) | (refine ⟨_, (by simp only [nf, nl, nm, en, ints, Nat.reduceAdd, Nat.reduceMul]; exact rfl), ?_⟩; conv => whnf) | (refine ⟨_, pick_at rfl (by first | exact Nat.le_of_ble_eq_true rfl | rfl | exact plain_i64 _ | exact plain_ints _ | exact all_ints _ | omega | (dsimp only; omega) | (simp; done) | (simp only [htf] at *; first | omega | (simp; omega))), ?_⟩; conv => whnf) | (refine ⟨_, rfl, ?_⟩; conv => whnf) | (first | refine iteP_true rfl ?_ | refine iteP_false rfl ?_ | refine iteP_true ‹_› ?_ | refine iteP_false ‹_› ?_; conv => whnf) | (refine And.intro (by kernel_rfl : indep _ _ = true) ?_; conv => whnf) | (refine And.intro (by rfl : List.all _ _ = true) ?_; conv => whnf) | (refine And.intro (by first | exact Nat.le_of_ble_eq_true rfl | rfl | exact plain_i64 _ | exact plain_ints _ | exact all_ints _ | omega | (dsimp only; omega) | (simp; done) | (simp only [htf] at *; first | omega | (simp; omega))) ?_; conv => whnf))
    refine iteP_intro (fun hb => ?_) (fun hb => ?_) <;> (conv => whnf)
    · have hi' : i < ms.length := by have := leT hb; omega
      have hge := natI_getD hi'
      have h63 := getD_lt hm hi' (by omega)
      have hml : ms.getD i 0 < 2 ^ ms.length := by
        rw [List.getD_eq_getElem?_getD, List.getElem?_eq_getElem hi', Option.getD_some]
        exact hm _ (List.getElem_mem hi')
      generalize hme : ms.getD i 0 = m at hge h63 hml
      repeat (first | (refine opt_some (getC_rows rfl rfl (by omega)) ?_; conv => whnf) | (refine opt_some rfl ?_; conv => whnf) | (refine ⟨_, (by simp only [nf, nl, nm, en, ints, Nat.reduceAdd, Nat.reduceMul, hge]; exact rfl), ?_⟩; conv => whnf) | (refine ⟨_, pick_at rfl (by first | exact Nat.le_of_ble_eq_true rfl | rfl | exact plain_i64 _ | exact plain_ints _ | exact all_ints _ | omega | (dsimp only; omega) | (simp; done) | (simp only [htf] at *; first | omega | (simp; omega))), ?_⟩; conv => whnf) | (refine ⟨_, rfl, ?_⟩; conv => whnf) | (first | refine iteP_true rfl ?_ | refine iteP_false rfl ?_ | refine iteP_true ‹_› ?_ | refine iteP_false ‹_› ?_; conv => whnf) | (refine And.intro (by kernel_rfl : indep _ _ = true) ?_; conv => whnf) | (refine And.intro (by rfl : List.all _ _ = true) ?_; conv => whnf) | (refine And.intro (by first | exact Nat.le_of_ble_eq_true rfl | rfl | exact plain_i64 _ | exact plain_ints _ | exact all_ints _ | omega | (dsimp only; omega) | (simp; done) | (simp only [htf] at *; first | omega | (simp; omega))) ?_; conv => whnf))
      (refine ⟨_, members_ret m h63, ?_⟩; conv => whnf)
      repeat (first | (refine opt_some (getC_rows rfl rfl (by omega)) ?_; conv => whnf) | (refine opt_some rfl ?_; conv => whnf) | (refine ⟨_, (by simp only [nf, nl, nm, en, ints, Nat.reduceAdd, Nat.reduceMul, hge]; exact rfl), ?_⟩; conv => whnf) | (refine ⟨_, pick_at rfl (by first | exact Nat.le_of_ble_eq_true rfl | rfl | exact plain_i64 _ | exact plain_ints _ | exact all_ints _ | omega | (dsimp only; omega) | (simp; done) | (simp only [htf] at *; first | omega | (simp; omega))), ?_⟩; conv => whnf) | (refine ⟨_, rfl, ?_⟩; conv => whnf) | (first | refine iteP_true rfl ?_ | refine iteP_false rfl ?_ | refine iteP_true ‹_› ?_ | refine iteP_false ‹_› ?_; conv => whnf) | (refine And.intro (by kernel_rfl : indep _ _ = true) ?_; conv => whnf) | (refine And.intro (by rfl : List.all _ _ = true) ?_; conv => whnf) | (refine And.intro (by first | exact Nat.le_of_ble_eq_true rfl | rfl | exact plain_i64 _ | exact plain_ints _ | exact all_ints _ | omega | (dsimp only; omega) | (simp; done) | (simp only [htf] at *; first | omega | (simp; omega))) ?_; conv => whnf))
      refine ⟨fun k vs => ∃ j : Nat, j ≤ (mems m).length ∧ vs = [.one (ints (natI (dblT ms (2 * i)))), .one (i64 ms.length), .one (i64 i), .one (i64 (dblP ms.length m j : Nat)), .one (ints (natI (mems m))), .one (i64 (mems m).length), .one (i64 j), .one (.shd (ints (natI ms)))] ∧ k = (mems m).length - j, rfl, ⟨_, 0, by omega, ?_, rfl⟩, ?_⟩
      · rw [dblP_zero]
        simp only [ints, natI_length, dblT_length, natI, List.length_map]; rfl
      · rintro k vs ⟨j, hj, rfl, rfl⟩
        have hmn := natI_length (mems m)
        have hm64 := mems_length m
        repeat (first | (refine opt_some (getC_rows rfl rfl (by omega)) ?_; conv => whnf) | (refine opt_some rfl ?_; conv => whnf) | (refine ⟨_, (by simp only [nf, nl, nm, en, ints, Nat.reduceAdd, Nat.reduceMul]; exact rfl), ?_⟩; conv => whnf) | (refine ⟨_, pick_at rfl (by first | exact Nat.le_of_ble_eq_true rfl | rfl | exact plain_i64 _ | exact plain_ints _ | exact all_ints _ | omega | (dsimp only; omega) | (simp; done) | (simp only [htf] at *; first | omega | (simp; omega))), ?_⟩; conv => whnf) | (refine ⟨_, rfl, ?_⟩; conv => whnf) | (first | refine iteP_true rfl ?_ | refine iteP_false rfl ?_ | refine iteP_true ‹_› ?_ | refine iteP_false ‹_› ?_; conv => whnf) | (refine And.intro (by kernel_rfl : indep _ _ = true) ?_; conv => whnf) | (refine And.intro (by rfl : List.all _ _ = true) ?_; conv => whnf) | (refine And.intro (by first | exact Nat.le_of_ble_eq_true rfl | rfl | exact plain_i64 _ | exact plain_ints _ | exact all_ints _ | omega | (dsimp only; omega) | (simp; done) | (simp only [htf] at *; first | omega | (simp; omega))) ?_; conv => whnf))
        refine iteP_intro (fun hb => ?_) (fun hb => ?_) <;> (conv => whnf)
        · have hj' : j < (mems m).length := by have := leT hb; omega
          obtain ⟨hbn, -⟩ := mems_lt hml (List.getElem_mem hj')
          have hst := dblP_step hj' hbn
          generalize hbe : (mems m)[j] = b at hbn hst
          have hgb : (natI (mems m))[j]'(by rw [natI_length]; exact hj') = ((b : Nat) : Int) := by rw [natI_get, hbe]
          have h2 : IntKind.i64.wrap (2 * (b : Int)) = ((2 * b : Nat) : Int) := by rw [wrap_i64 (by omega) (by omega)]; omega
          have hp : 2 ^ (2 * b) < 2 ^ 60 := Nat.pow_lt_pow_right (by decide) (by omega)
          have h3 : IntKind.i64.wrap (3 * 2 ^ min (((2 * b : Nat) : Int)).toNat IntKind.i64.bits) = ((3 * 2 ^ (2 * b) : Nat) : Int) := by
            rw [show min (((2 * b : Nat) : Int)).toNat IntKind.i64.bits = 2 * b by rw [Int.toNat_natCast]; exact Nat.min_eq_left (by simp [IntKind.bits]; omega), show (3 : Int) * 2 ^ (2 * b) = ((3 * 2 ^ (2 * b) : Nat) : Int) by simp]
            exact wrap_nat (by omega)
          have hP : dblP ms.length m j < 2 ^ 63 := Nat.lt_of_lt_of_le (dblP_lt _ _ _) (Nat.pow_le_pow_right (by decide) (by omega))
          have h4 := or_i64 hP (b := 3 * 2 ^ (2 * b)) (by omega)
          rw [hst] at h4
          repeat (first | (refine opt_some (getC_rows rfl rfl (by omega)) ?_; conv => whnf) | (refine opt_some rfl ?_; conv => whnf) | (refine ⟨_, (by simp only [nf, nl, nm, en, ints, Nat.reduceAdd, Nat.reduceMul, hgb, h2, h3, h4]; exact rfl), ?_⟩; conv => whnf) | (refine ⟨_, pick_at rfl (by first | exact Nat.le_of_ble_eq_true rfl | rfl | exact plain_i64 _ | exact plain_ints _ | exact all_ints _ | omega | (dsimp only; omega) | (simp; done) | (simp only [htf] at *; first | omega | (simp; omega))), ?_⟩; conv => whnf) | (refine ⟨_, rfl, ?_⟩; conv => whnf) | (first | refine iteP_true rfl ?_ | refine iteP_false rfl ?_ | refine iteP_true ‹_› ?_ | refine iteP_false ‹_› ?_; conv => whnf) | (refine And.intro (by kernel_rfl : indep _ _ = true) ?_; conv => whnf) | (refine And.intro (by rfl : List.all _ _ = true) ?_; conv => whnf) | (refine And.intro (by first | exact Nat.le_of_ble_eq_true rfl | rfl | exact plain_i64 _ | exact plain_ints _ | exact all_ints _ | omega | (dsimp only; omega) | (simp; done) | (simp only [htf] at *; first | omega | (simp; omega))) ?_; conv => whnf))
          refine ⟨_, ?_, j + 1, hj', ?_, rfl⟩
          · omega
          · rw [wrap_succ (by omega)]
            simp only [ints, natI_length, dblT_length]
            rfl
        · obtain rfl : j = (mems m).length := by have := leF hb; omega
          rw [dblP_full hl]
          repeat (first | (refine opt_some (getC_rows rfl rfl (by omega)) ?_; conv => whnf) | (refine opt_some rfl ?_; conv => whnf) | (refine ⟨_, (by simp only [nf, nl, nm, en, ints, Nat.reduceAdd, Nat.reduceMul]; exact rfl), ?_⟩; conv => whnf) | (refine ⟨_, pick_at rfl (by first | exact Nat.le_of_ble_eq_true rfl | rfl | exact plain_i64 _ | exact plain_ints _ | exact all_ints _ | omega | (dsimp only; omega) | (simp; done) | (simp only [htf] at *; first | omega | (simp; omega))), ?_⟩; conv => whnf) | (refine ⟨_, rfl, ?_⟩; conv => whnf) | (first | refine iteP_true rfl ?_ | refine iteP_false rfl ?_ | refine iteP_true ‹_› ?_ | refine iteP_false ‹_› ?_; conv => whnf) | (refine And.intro (by kernel_rfl : indep _ _ = true) ?_; conv => whnf) | (refine And.intro (by rfl : List.all _ _ = true) ?_; conv => whnf) | (refine And.intro (by first | exact Nat.le_of_ble_eq_true rfl | rfl | exact plain_i64 _ | exact plain_ints _ | exact all_ints _ | omega | (dsimp only; omega) | (simp; done) | (simp only [htf] at *; first | omega | (simp; omega))) ?_; conv => whnf))
          refine ⟨fun x hx => by simp at hx; subst hx; rfl, ?_⟩
          conv => whnf
          repeat (first | (refine opt_some (getC_rows rfl rfl (by omega)) ?_; conv => whnf) | (refine opt_some rfl ?_; conv => whnf) | (refine ⟨_, (by simp only [nf, nl, nm, en, ints, Nat.reduceAdd, Nat.reduceMul]; exact rfl), ?_⟩; conv => whnf) | (refine ⟨_, pick_at rfl (by first | exact Nat.le_of_ble_eq_true rfl | rfl | exact plain_i64 _ | exact plain_ints _ | exact all_ints _ | omega | (dsimp only; omega) | (simp; done) | (simp only [htf] at *; first | omega | (simp; omega))), ?_⟩; conv => whnf) | (refine ⟨_, rfl, ?_⟩; conv => whnf) | (first | refine iteP_true rfl ?_ | refine iteP_false rfl ?_ | refine iteP_true ‹_› ?_ | refine iteP_false ‹_› ?_; conv => whnf) | (refine And.intro (by kernel_rfl : indep _ _ = true) ?_; conv => whnf) | (refine And.intro (by rfl : List.all _ _ = true) ?_; conv => whnf) | (refine And.intro (by first | exact Nat.le_of_ble_eq_true rfl | rfl | exact plain_i64 _ | exact plain_ints _ | exact all_ints _ | omega | (dsimp only; omega) | (simp; done) | (simp only [htf] at *; first | omega | (simp; omega))) ?_; conv => whnf))
          refine ⟨_, ?_, i + 1, hi', ?_, rfl⟩
          · omega
          · rw [wrap_succ (by omega), show 2 * (i + 1) = 2 * i + 1 + 1 by omega, dblT_succ, dblT_succ, show (2 * i + 1) / 2 = i by omega, show 2 * i / 2 = i by omega, hme]
            simp only [ints, natI_length, dblT_length, List.length_append, natI, List.map_append, List.append_assoc]
            rfl
    · obtain rfl : i = ms.length := by have := leF hb; omega
      repeat' (first | (refine opt_some (getC_rows rfl rfl (by omega)) ?_; conv => whnf) | (refine opt_some rfl ?_; conv => whnf) | (refine ⟨_, (by simp only [nf, nl, nm, en, ints, Nat.reduceAdd, Nat.reduceMul]; exact rfl), ?_⟩; conv => whnf) | (refine ⟨_, pick_at rfl (by first | exact Nat.le_of_ble_eq_true rfl | rfl | exact plain_i64 _ | exact plain_ints _ | exact all_ints _ | omega | (dsimp only; omega) | (simp; done) | (simp only [htf] at *; first | omega | (simp; omega))), ?_⟩; conv => whnf) | (refine ⟨_, rfl, ?_⟩; conv => whnf) | (first | refine iteP_true rfl ?_ | refine iteP_false rfl ?_ | refine iteP_true ‹_› ?_ | refine iteP_false ‹_› ?_; conv => whnf) | (refine And.intro (by kernel_rfl : indep _ _ = true) ?_; conv => whnf) | (refine And.intro (by rfl : List.all _ _ = true) ?_; conv => whnf) | (refine And.intro (by first | exact Nat.le_of_ble_eq_true rfl | rfl | exact plain_i64 _ | exact plain_ints _ | exact all_ints _ | omega | (dsimp only; omega) | (simp; done) | (simp only [htf] at *; first | omega | (simp; omega))) ?_; conv => whnf) | (refine iteP_intro (fun hb => ?_) (fun hb => ?_) <;> (conv => whnf)))
      simp [resSV, isAggS, ints, natI_length, dblN]
end Go.Proofs.YthlnahomjdcbeaaDoor
