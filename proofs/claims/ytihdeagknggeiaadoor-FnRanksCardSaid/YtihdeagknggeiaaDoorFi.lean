import Derived.Test.YtihdeagknggeiaaDoorFh
set_option autoImplicit false
set_option linter.unusedSimpArgs false
set_option linter.unusedVariables false
namespace Go.Proofs.YtihdeagknggeiaaDoor
open Go.Den
theorem maskN_add {p q : Nat → Bool} (h : ∀ i, p i = true → q i = false) : ∀ n, maskN p n + maskN q n = maskN (fun i => p i || q i) n
  | 0 => rfl
  | n + 1 => by
    have ih := maskN_add h n
    have h0 := h n
    show (maskN p n + if p n = true then 2 ^ n else 0) + (maskN q n + if q n = true then 2 ^ n else 0) = maskN (fun i => p i || q i) n + if (p n || q n) = true then 2 ^ n else 0
    generalize p n = x at h0 ⊢
    generalize q n = y at h0 ⊢
    cases x <;> cases y <;> simp at h0 ⊢ <;> omega
theorem maskN_and {a : Nat} (b : Nat) {n : Nat} (ha : a < 2 ^ n) : maskN (fun i => a.testBit i && b.testBit i) n = a &&& b := by
  refine Nat.eq_of_testBit_eq fun i => ?_
  rw [maskN_bit, Nat.testBit_and]
  by_cases hi : i < n
  · simp [hi]
  · have : a.testBit i = false := Nat.testBit_lt_two_pow (Nat.lt_of_lt_of_le ha (Nat.pow_le_pow_right (by decide) (by omega)))
    simp [this]
theorem add_or {x y : Nat} (hx : x < 2 ^ 63) (hy : y < 2 ^ 63) (h : ∀ i, x.testBit i = true → y.testBit i = false) : x + y = x ||| y := by
  have := maskN_add h 63
  rw [maskN_self hx, maskN_self hy] at this
  rw [this]
  refine Nat.eq_of_testBit_eq fun i => ?_
  rw [maskN_bit, Nat.testBit_or]
  by_cases hi : i < 63
  · simp [hi]
  · have h1 : x.testBit i = false := Nat.testBit_lt_two_pow (Nat.lt_of_lt_of_le hx (Nat.pow_le_pow_right (by decide) (by omega)))
    have h2 : y.testBit i = false := Nat.testBit_lt_two_pow (Nat.lt_of_lt_of_le hy (Nat.pow_le_pow_right (by decide) (by omega)))
    simp [h1, h2]
/-- The bits of a that b has not. -/
def andn (a b : Nat) : Nat := maskN (fun i => a.testBit i && !b.testBit i) 63
theorem andn_lt (a b : Nat) : andn a b < 2 ^ 63 := maskN_lt _ _
theorem andn_bit {a : Nat} (b i : Nat) (ha : a < 2 ^ 63) : (andn a b).testBit i = (a.testBit i && !b.testBit i) := by
  unfold andn
  rw [maskN_bit]
  by_cases hi : i < 63
  · simp [hi]
  · have h1 : a.testBit i = false := Nat.testBit_lt_two_pow (Nat.lt_of_lt_of_le ha (Nat.pow_le_pow_right (by decide) (by omega)))
    simp [h1]
theorem andn_sub {a : Nat} (b : Nat) (ha : a < 2 ^ 63) : andn a b + (a &&& b) = a := by
  have := maskN_add (p := fun i => a.testBit i && !b.testBit i) (q := fun i => a.testBit i && b.testBit i) (fun i h => by simp at h ⊢; intro _; exact h.2) 63
  rw [maskN_and b ha] at this
  unfold andn
  rw [this]
  conv => rhs; rw [← maskN_self ha]
  refine maskN_congr fun i _ => ?_
  cases a.testBit i <;> cases b.testBit i <;> rfl
theorem andn_i64 {a b : Nat} (ha : a < 2 ^ 63) (hb : b < 2 ^ 63) : IntKind.i64.wrap ((BitVec.ofInt IntKind.i64.bits (a : Int) &&& ~~~ BitVec.ofInt IntKind.i64.bits (b : Int)).toNat : Int) = ((andn a b : Nat) : Int) := by
  have h1 : (BitVec.ofInt 64 (a : Int) &&& ~~~ BitVec.ofInt 64 (b : Int)).toNat = andn a b := by
    refine Nat.eq_of_testBit_eq fun i => ?_
    rw [andn_bit _ _ ha, BitVec.testBit_toNat, BitVec.getLsbD_and, BitVec.getLsbD_not, BitVec.ofInt_natCast, BitVec.ofInt_natCast, BitVec.getLsbD_ofNat, BitVec.getLsbD_ofNat]
    by_cases hi : i < 64
    · simp [hi]
    · have h1 : a.testBit i = false := Nat.testBit_lt_two_pow (Nat.lt_of_lt_of_le ha (Nat.pow_le_pow_right (by decide) (by omega)))
      simp [h1]
  have h3 := andn_lt a b
  show IntKind.i64.wrap ((BitVec.ofInt 64 (a : Int) &&& ~~~ BitVec.ofInt 64 (b : Int)).toNat : Int) = _
  rw [h1]
  exact wrap_nat (by omega)
theorem xor_i64 {a b : Nat} (ha : a < 2 ^ 63) (hb : b < 2 ^ 63) : IntKind.i64.wrap ((BitVec.ofInt IntKind.i64.bits (a : Int) ^^^ BitVec.ofInt IntKind.i64.bits (b : Int)).toNat : Int) = ((a ^^^ b : Nat) : Int) := by
  have h1 : (BitVec.ofInt 64 (a : Int) ^^^ BitVec.ofInt 64 (b : Int)).toNat = a ^^^ b := by
    rw [BitVec.toNat_xor, BitVec.ofInt_natCast, BitVec.ofInt_natCast, BitVec.toNat_ofNat, BitVec.toNat_ofNat, Nat.mod_eq_of_lt (a := a) (by omega), Nat.mod_eq_of_lt (a := b) (by omega)]
  have h3 : a ^^^ b < 2 ^ 63 := Nat.xor_lt_two_pow ha hb
  show IntKind.i64.wrap ((BitVec.ofInt 64 (a : Int) ^^^ BitVec.ofInt 64 (b : Int)).toNat : Int) = _
  rw [h1]
  exact wrap_nat (by omega)
/-- The other one of a pair. -/
def opp (s : Nat) : Nat := s + 1 - 2 * (s % 2)
theorem xor_one (s : Nat) : s ^^^ 1 = opp s := by
  refine Nat.eq_of_testBit_eq fun i => ?_
  unfold opp
  rw [Nat.testBit_xor]
  rcases Nat.mod_two_eq_zero_or_one s with h | h
  · rw [h, Nat.mul_zero, Nat.sub_zero]
    cases i with
    | zero => rw [Nat.testBit_zero, Nat.testBit_zero, Nat.testBit_zero, h, show (s + 1) % 2 = 1 by omega]; rfl
    | succ i => rw [Nat.testBit_succ, Nat.testBit_succ, Nat.testBit_succ, show (s + 1) / 2 = s / 2 by omega, show 1 / 2 = 0 from rfl, Nat.zero_testBit, Bool.xor_false]
  · rw [h, Nat.mul_one, show s + 1 - 2 = s - 1 by omega]
    cases i with
    | zero => rw [Nat.testBit_zero, Nat.testBit_zero, Nat.testBit_zero, h, show (s - 1) % 2 = 0 by omega]; rfl
    | succ i => rw [Nat.testBit_succ, Nat.testBit_succ, Nat.testBit_succ, show (s - 1) / 2 = s / 2 by omega, show 1 / 2 = 0 from rfl, Nat.zero_testBit, Bool.xor_false]
theorem opp_lt {s L : Nat} (h : s < 2 * L) : opp s < 2 * L := by unfold opp; omega
theorem opp_div (s : Nat) : opp s / 2 = s / 2 := by unfold opp; omega
/-- The masks of a relation, each letter doubled. -/
def dblM (L m : Nat) : Nat := maskN (fun b => m.testBit (b / 2)) (2 * L)
def dblT (ms : List Nat) (i : Nat) : List Nat := (List.range i).map fun a => dblM ms.length (ms.getD (a / 2) 0)
def dblN (ms : List Nat) : List Nat := dblT ms (2 * ms.length)
theorem dblT_length (ms : List Nat) (i : Nat) : (dblT ms i).length = i := by simp [dblT]
theorem dblT_succ (ms : List Nat) (i : Nat) : dblT ms (i + 1) = dblT ms i ++ [dblM ms.length (ms.getD (i / 2) 0)] := by simp [dblT, List.range_succ]
theorem dblN_length (ms : List Nat) : (dblN ms).length = 2 * ms.length := dblT_length _ _
theorem dblN_get {ms : List Nat} {s : Nat} (h : s < (dblN ms).length) : (dblN ms)[s] = dblM ms.length (ms.getD (s / 2) 0) := by simp [dblN, dblT]
theorem dblM_lt (L m : Nat) : dblM L m < 2 ^ (2 * L) := maskN_lt _ _
/-- A mask of which the first members are doubled. -/
def dblP (L m j : Nat) : Nat := maskN (fun b => decide (b / 2 ∈ (mems m).take j)) (2 * L)
theorem dblP_zero (L m : Nat) : dblP L m 0 = 0 := by
  refine Nat.eq_of_testBit_eq fun i => ?_
  simp [dblP, maskN_bit]
theorem dblP_lt (L m j : Nat) : dblP L m j < 2 ^ (2 * L) := maskN_lt _ _
theorem three_bit (b i : Nat) : (3 * 2 ^ (2 * b)).testBit i = decide (i / 2 = b) := by
  rw [Nat.testBit_mul_two_pow]
  by_cases h : 2 * b ≤ i
  · obtain ⟨k, rfl⟩ : ∃ k, i = 2 * b + k := ⟨i - 2 * b, by omega⟩
    rw [Nat.add_sub_cancel_left]
    have h3 : (3 : Nat).testBit k = decide (k < 2) := by
      rw [show (3 : Nat) = 2 ^ 2 - 1 from rfl, Nat.testBit_two_pow_sub_one]
    rw [h3, decide_eq_true h, Bool.true_and, decide_eq_decide]
    omega
  · rw [decide_eq_false h, Bool.false_and]
    exact (decide_eq_false (by omega)).symm
theorem dblP_step {L m j : Nat} (hj : j < (mems m).length) (hb : (mems m)[j] < L) : dblP L m j ||| 3 * 2 ^ (2 * (mems m)[j]) = dblP L m (j + 1) := by
  refine Nat.eq_of_testBit_eq fun i => ?_
  rw [Nat.testBit_or, three_bit, dblP, dblP, maskN_bit, maskN_bit, List.take_succ_eq_append_getElem hj]
  by_cases hi : i < 2 * L
  · rw [decide_eq_true hi, Bool.true_and, Bool.true_and, ← Bool.decide_or, decide_eq_decide, List.mem_append, List.mem_singleton]
  · have : ¬ i / 2 = (mems m)[j] := by omega
    simp [hi, this]
theorem dblP_full {L m : Nat} (hL : L ≤ 8) : dblP L m (mems m).length = dblM L m := by
  unfold dblP dblM
  refine maskN_congr fun i hi => ?_
  rw [List.take_length]
  unfold mems
  simp only [List.mem_filter, List.mem_range]
  have : i / 2 < 64 := by omega
  simp [this]
/-- Which letters can't follow when s follows those that mask bars. -/
def nxt (D : List Nat) (mask s : Nat) : Nat := andn (mask ||| (2 ^ s - 1)) (D.getD s 0) ||| 2 ^ opp s
theorem mask_lt {W mask s : Nat} (hm : mask < 2 ^ W) (hs : s < W) : mask ||| (2 ^ s - 1) < 2 ^ W := by
  refine Nat.or_lt_two_pow hm ?_
  have := Nat.pow_lt_pow_right (a := 2) (by decide) hs
  omega
theorem nxt_lt {D : List Nat} {L mask s : Nat} (hL : L ≤ 8) (hm : mask < 2 ^ (2 * L)) (hs : s < 2 * L) : nxt D mask s < 2 ^ (2 * L) := by
  have h1 := mask_lt hm hs
  unfold nxt
  refine Nat.or_lt_two_pow ?_ (Nat.pow_lt_pow_right (by decide) (opp_lt hs))
  have h63 : mask ||| (2 ^ s - 1) < 2 ^ 63 := Nat.lt_of_lt_of_le h1 (Nat.pow_le_pow_right (by decide) (by omega))
  have := andn_sub (D.getD s 0) h63
  omega
/-- The sum of the first i. -/
def sumN (f : Nat → Nat) : Nat → Nat
  | 0 => 0
  | i + 1 => sumN f i + f i
theorem sumN_le {f : Nat → Nat} {c : Nat} (h : ∀ i, f i ≤ c) : ∀ n, sumN f n ≤ n * c
  | 0 => by simp [sumN]
  | n + 1 => by
    have := sumN_le h n
    have := h n
    rw [Nat.succ_mul]
    simp only [sumN]
    omega
/-- How many ways there are to go on with n letters, up to one more than c. -/
def cnt (D : List Nat) : Nat → Nat → Nat
  | 0, _ => 1
  | n + 1, mask => min (sumN (fun s => if mask.testBit s then 0 else cnt D n (nxt D mask s)) D.length) 1000000000000001
theorem cnt_le (D : List Nat) : ∀ n mask, cnt D n mask ≤ 1000000000000001
  | 0, _ => by simp [cnt]
  | n + 1, _ => by rw [cnt]; exact Nat.min_le_right _ _
def trm (D : List Nat) (n mask : Nat) (s : Nat) : Nat := if mask.testBit s then 0 else cnt D n (nxt D mask s)
theorem trm_le (D : List Nat) (n mask s : Nat) : trm D n mask s ≤ 1000000000000001 := by
  unfold trm
  split
  · omega
  · exact cnt_le _ _ _
theorem cnt_succ (D : List Nat) (n mask : Nat) : cnt D (n + 1) mask = min (sumN (trm D n mask) D.length) 1000000000000001 := rfl
theorem natI_getD {ms : List Nat} {i : Nat} (h : i < ms.length) : (natI ms)[i]'(by rw [natI_length]; exact h) = ((ms.getD i 0 : Nat) : Int) := by
  rw [natI_get, List.getD_eq_getElem?_getD, List.getElem?_eq_getElem h, Option.getD_some]
theorem getD_lt {ms : List Nat} {W i : Nat} (h : ∀ m ∈ ms, m < 2 ^ W) (hi : i < ms.length) (hW : W ≤ 63) : ms.getD i 0 < 2 ^ 63 := by
  rw [List.getD_eq_getElem?_getD, List.getElem?_eq_getElem hi, Option.getD_some]
  exact Nat.lt_of_lt_of_le (h _ (List.getElem_mem hi)) (Nat.pow_le_pow_right (by decide) hW)
set_option maxHeartbeats 16000000 in
set_option maxRecDepth 100000 in
theorem forbidden_ret (D : List Nat) (shut s : Nat) (hs : s < D.length) (hD : D.length ≤ 32) (hm : ∀ m ∈ D, m < 2 ^ D.length) (hsh : shut < 2 ^ D.length) : Ret Tryd.prog G0 67 [⟨.ro, .one (ints (natI D))⟩, ⟨.ro, .one (i64 shut)⟩, ⟨.ro, .one (i64 s)⟩] ⟨.one (i64 (andn (shut ||| (2 ^ s - 1)) (D.getD s 0) : Nat)), []⟩ := by
  (refine ret_of_den (E := en 17 [] (fun _ => []) (fun _ => [])) tt_ok mixed Tryd.func67 rfl rfl rfl rfl ?_; refine ⟨by simp, ?_⟩)
  have hg := natI_getD hs
  have hn := natI_length D
  have h63 := getD_lt hm hs (by omega)
  have hlt := mask_lt hsh hs
  have hlt2 : shut ||| (2 ^ s - 1) < 2 ^ 63 := Nat.lt_of_lt_of_le hlt (Nat.pow_le_pow_right (by decide) (by omega))
  have hp := pow_i64 (i := s) (by omega)
  have hp1 := Nat.two_pow_pos s
  have hs63 : shut < 2 ^ 63 := Nat.lt_of_lt_of_le hsh (Nat.pow_le_pow_right (by decide) (by omega))
  have h1 : IntKind.i64.wrap (((2 ^ s : Nat) : Int) - 1) = ((2 ^ s - 1 : Nat) : Int) := by rw [wrap_i64 (by omega) (by omega)]; omega
  have h2 := or_i64 (a := shut) (b := 2 ^ s - 1) hs63 (by omega)
  have h3 := andn_i64 (a := shut ||| (2 ^ s - 1)) (b := D.getD s 0) hlt2 h63
  repeat' (first | ((first | refine opt_some (getC_rows rfl rfl (by omega)) ?_ | refine opt_some (by dsimp only; exact getC_lent rfl rfl (by omega)) ?_ | refine opt_some rfl ?_ | refine ⟨_, (by simp only [nf, nl, nm, en, ints, setC_setC, Nat.reduceAdd, Nat.reduceMul]; exact rfl), ?_⟩ | refine ⟨_, pickT rfl, ?_⟩ | refine ⟨_, rfl, ?_⟩ | refine iteP_true rfl ?_ | refine iteP_false rfl ?_ | refine iteP_true ‹_› ?_ | refine iteP_false ‹_› ?_ | refine andK ?_ | refine andA ?_ | refine andT ?_); conv => whnf) | (refine iteP_intro (fun hb => ?_) (fun hb => ?_) <;> (conv => whnf)))
  (refine ⟨_, one_retN s (by omega), ?_⟩; conv => whnf)
  repeat' (first | ((first | refine opt_some (getC_rows rfl rfl (by omega)) ?_ | refine opt_some (by dsimp only; exact getC_lent rfl rfl (by omega)) ?_ | refine opt_some rfl ?_ | refine ⟨_, (by simp only [nf, nl, nm, en, ints, setC_setC, Nat.reduceAdd, Nat.reduceMul, hg, h1, h2, h3]; exact rfl), ?_⟩ | refine ⟨_, pickT rfl, ?_⟩ | refine ⟨_, rfl, ?_⟩ | refine iteP_true rfl ?_ | refine iteP_false rfl ?_ | refine iteP_true ‹_› ?_ | refine iteP_false ‹_› ?_ | refine andK ?_ | refine andA ?_ | refine andT ?_); conv => whnf) | (refine iteP_intro (fun hb => ?_) (fun hb => ?_) <;> (conv => whnf)))
  rfl
set_option maxHeartbeats 16000000 in
set_option maxRecDepth 100000 in
theorem l06Code_ret (n m : Int) (ds : List Int) (hd : ds.length < 2 ^ 62) : Ret Tryd.prog G0 68 [⟨.ro, .agg [i64 n, ints ds]⟩, ⟨.ro, .one (i64 m)⟩] ⟨.one (i64 (if alphaOk n ds then (if 0 ≤ m ∧ m ≤ 24 then 0 else 2) else 1)), []⟩ := by
  (refine ret_of_den (E := en 11 [] (fun _ => []) (fun _ => [])) tt_ok mixed Tryd.func68 rfl rfl rfl rfl ?_; refine ⟨by simp, ?_⟩)
  repeat' (first | ((first | refine opt_some (getC_rows rfl rfl (by omega)) ?_ | refine opt_some (by dsimp only; exact getC_lent rfl rfl (by omega)) ?_ | refine opt_some rfl ?_ | refine ⟨_, (by simp only [nf, nl, nm, en, ints, setC_setC, Nat.reduceAdd, Nat.reduceMul]; exact rfl), ?_⟩ | refine ⟨_, pickT rfl, ?_⟩ | refine ⟨_, rfl, ?_⟩ | refine iteP_true rfl ?_ | refine iteP_false rfl ?_ | refine iteP_true ‹_› ?_ | refine iteP_false ‹_› ?_ | refine andK ?_ | refine andA ?_ | refine andT ?_); conv => whnf) | (refine iteP_intro (fun hb => ?_) (fun hb => ?_) <;> (conv => whnf)))
  (refine ⟨_, l02Is_ret n ds hd, ?_⟩; conv => whnf)
  repeat' (first | ((first | refine opt_some (getC_rows rfl rfl (by omega)) ?_ | refine opt_some (by dsimp only; exact getC_lent rfl rfl (by omega)) ?_ | refine opt_some rfl ?_ | refine ⟨_, (by simp only [nf, nl, nm, en, ints, setC_setC, Nat.reduceAdd, Nat.reduceMul]; exact rfl), ?_⟩ | refine ⟨_, pickT rfl, ?_⟩ | refine ⟨_, rfl, ?_⟩ | refine iteP_true rfl ?_ | refine iteP_false rfl ?_ | refine iteP_true ‹_› ?_ | refine iteP_false ‹_› ?_ | refine andK ?_ | refine andA ?_ | refine andT ?_); conv => whnf) | (refine iteP_intro (fun hb => ?_) (fun hb => ?_) <;> (conv => whnf)))
  · refine endI ?_
    rw [show alphaOk n ds = false by simpa using hb]
    rfl
  · have ha : alphaOk n ds = true := by simpa using hb
    (refine ⟨_, l01In_ret _ _ _, ?_⟩; conv => whnf)
    repeat' (first | ((first | refine opt_some (getC_rows rfl rfl (by omega)) ?_ | refine opt_some (by dsimp only; exact getC_lent rfl rfl (by omega)) ?_ | refine opt_some rfl ?_ | refine ⟨_, (by simp only [nf, nl, nm, en, ints, setC_setC, Nat.reduceAdd, Nat.reduceMul]; exact rfl), ?_⟩ | refine ⟨_, pickT rfl, ?_⟩ | refine ⟨_, rfl, ?_⟩ | refine iteP_true rfl ?_ | refine iteP_false rfl ?_ | refine iteP_true ‹_› ?_ | refine iteP_false ‹_› ?_ | refine andK ?_ | refine andA ?_ | refine andT ?_); conv => whnf) | (refine iteP_intro (fun hb => ?_) (fun hb => ?_) <;> (conv => whnf)))
    · refine endI ?_
      rw [ha, if_pos rfl, if_neg (by simp at hb; omega)]
    · refine endI ?_
      rw [ha, if_pos rfl, if_pos (by simpa using hb)]
theorem dblN_lt {ms : List Nat} : ∀ m ∈ dblN ms, m < 2 ^ (dblN ms).length := fun m hm => by
  rw [dblN_length]
  unfold dblN dblT at hm
  obtain ⟨a, -, rfl⟩ := List.mem_map.1 hm
  exact dblM_lt _ _
theorem dblN_opp {ms : List Nat} (hs : ∀ a < ms.length, (ms.getD a 0).testBit a = true) {s : Nat} (h : s < (dblN ms).length) : ((dblN ms).getD s 0).testBit (opp s) = true := by
  rw [List.getD_eq_getElem?_getD, List.getElem?_eq_getElem h, Option.getD_some, dblN_get]
  rw [dblN_length] at h
  unfold dblM
  rw [maskN_bit, opp_div, hs _ (by omega), decide_eq_true (opp_lt h)]
  rfl
/-- What is remembered: for the letters barred and the number of letters, the count. -/
abbrev Memo := List ((Nat × Nat) × Nat)
def keyV (k : Nat × Nat) : Value := .agg #[.int .i64 k.1, .int .i64 k.2]
def memoC (es : Memo) : Cell := .mp false (es.map fun e => keyV e.1) (es.map fun e => i64 (e.2 : Nat))
def findM (k : Nat × Nat) : Memo → Option Nat
  | [] => none
  | e :: es => if e.1 = k then some e.2 else findM k es
def addM (k : Nat × Nat) (v : Nat) : Memo → Memo
  | [] => [(k, v)]
  | e :: es => if e.1 = k then (e.1, v) :: es else e :: addM k v es
theorem keyEq_V (a b : Nat × Nat) : keyEq (keyV a) (keyV b) = decide (b = a) := by
  obtain ⟨a1, a2⟩ := a
  obtain ⟨b1, b2⟩ := b
  have : keyEq (keyV (a1, a2)) (keyV (b1, b2)) = (((a1 : Int) == b1) && (((a2 : Int) == b2) && true)) := by simp [keyEq, keyV, keyEq.go]
  rw [this]
  by_cases h1 : b1 = a1 <;> by_cases h2 : b2 = a2 <;> simp [h1, h2, Prod.ext_iff] <;> omega
theorem getM_memo (k : Nat × Nat) : ∀ es : Memo, getM (keyV k) (es.map fun e => keyV e.1) (es.map fun e => i64 (e.2 : Nat)) = (findM k es).map fun v => i64 (v : Nat)
  | [] => rfl
  | e :: es => by
    have ih := getM_memo k es
    unfold getM at ih ⊢
    simp only [List.map_cons, findK, findM, keyEq_V]
    by_cases h : e.1 = k
    · simp [h]
    · rw [if_neg (by simpa using h), if_neg h, ← ih]
      cases findK (keyV k) (es.map fun e => keyV e.1) <;> simp
theorem put_memo (k : Nat × Nat) (v : Nat) : ∀ es : Memo, putK (keyV k) (es.map fun e => keyV e.1) = (addM k v es).map (fun e => keyV e.1) ∧ putM (keyV k) (es.map fun e => keyV e.1) (i64 (v : Nat)) (es.map fun e => i64 (e.2 : Nat)) = (addM k v es).map fun e => i64 (e.2 : Nat)
  | [] => ⟨rfl, rfl⟩
  | e :: es => by
    have ih := put_memo k v es
    unfold putK putM at ih ⊢
    simp only [List.map_cons, findK, addM, keyEq_V]
    by_cases h : e.1 = k
    · simp [h]
    · rw [if_neg (by simpa using h), if_neg h]
      cases hf : findK (keyV k) (es.map fun e => keyV e.1) with
      | none => rw [hf] at ih; simpa using ih
      | some i => rw [hf] at ih; simpa using ih
def Known (D : List Nat) (es : Memo) : Prop := ∀ e ∈ es, e.2 = cnt D e.1.2 e.1.1
theorem find_known {D : List Nat} {k : Nat × Nat} {v : Nat} : ∀ {es : Memo}, Known D es → findM k es = some v → v = cnt D k.2 k.1
  | [], _, h => by cases h
  | e :: es, hk, h => by
    unfold findM at h
    split at h
    · rename_i he
      cases h
      rw [← he]
      exact hk e (by simp)
    · exact find_known (fun x hx => hk x (by simp [hx])) h
theorem add_known {D : List Nat} {k : Nat × Nat} {v : Nat} (hv : v = cnt D k.2 k.1) : ∀ {es : Memo}, Known D es → Known D (addM k v es)
  | [], _ => fun x hx => by
    obtain rfl := List.mem_singleton.1 hx
    exact hv
  | e :: es, hk => by
    unfold addM
    split
    · rename_i he
      intro x hx
      rcases List.mem_cons.1 hx with rfl | hx
      · simp only; rw [he]; exact hv
      · exact hk x (by simp [hx])
    · intro x hx
      rcases List.mem_cons.1 hx with rfl | hx
      · exact hk _ (by simp)
      · exact add_known hv (fun x hx => hk x (by simp [hx])) x hx
/-- A loop that carries a state. -/
def loopN {σ : Type} (f : Nat → σ → σ) : Nat → σ → σ
  | 0, st => st
  | i + 1, st => f i (loopN f i st)
/-- The count with what it remembers. -/
def goM (D : List Nat) : Nat → Nat → Memo → Nat × Memo
  | 0, _, es => (1, es)
  | n + 1, shut, es => match findM (shut, n + 1) es with
    | some v => (v, es)
    | none =>
      let r := loopN (fun s (st : Nat × Memo) => if shut.testBit s then st else (min (st.1 + (goM D n (nxt D shut s) st.2).1) 1000000000000001, (goM D n (nxt D shut s) st.2).2)) D.length (0, es)
      (r.1, addM (shut, n + 1) r.1 r.2)
def goS (D : List Nat) (n shut : Nat) (es : Memo) (i : Nat) : Nat × Memo := loopN (fun s (st : Nat × Memo) => if shut.testBit s then st else (min (st.1 + (goM D n (nxt D shut s) st.2).1) 1000000000000001, (goM D n (nxt D shut s) st.2).2)) i (0, es)
theorem min_cast (a : Nat) : (if (1000000000000001 : Int) < (a : Int) then (1000000000000001 : Int) else (a : Int)) = ((min a 1000000000000001 : Nat) : Int) := by split <;> omega
theorem goS_succ (D : List Nat) (n shut : Nat) (es : Memo) (i : Nat) : goS D n shut es (i + 1) = if shut.testBit i then goS D n shut es i else (min ((goS D n shut es i).1 + (goM D n (nxt D shut i) (goS D n shut es i).2).1) 1000000000000001, (goM D n (nxt D shut i) (goS D n shut es i).2).2) := rfl
theorem goS_known0 {D : List Nat} {n : Nat} (ih : ∀ shut es, Known D es → (goM D n shut es).1 = cnt D n shut ∧ Known D (goM D n shut es).2) {shut : Nat} {es : Memo} (h : Known D es) : ∀ i, (goS D n shut es i).1 = min (sumN (trm D n shut) i) 1000000000000001 ∧ Known D (goS D n shut es i).2
  | 0 => ⟨by simp [goS, loopN, sumN], h⟩
  | i + 1 => by
    have ihi := goS_known0 ih (shut := shut) h i
    rw [goS_succ, sumN, trm]
    split
    · exact ⟨by rw [ihi.1, Nat.add_zero], ihi.2⟩
    · obtain ⟨e1, e2⟩ := ih (nxt D shut i) _ ihi.2
      refine ⟨?_, e2⟩
      simp only
      rw [e1, ihi.1]
      omega
theorem goM_known (D : List Nat) : ∀ n shut es, Known D es → (goM D n shut es).1 = cnt D n shut ∧ Known D (goM D n shut es).2
  | 0, _, _, h => ⟨rfl, h⟩
  | n + 1, shut, es, h => by
    have hl := goS_known0 (goM_known D n) (shut := shut) h
    unfold goM
    split
    · rename_i v hv
      exact ⟨find_known h hv, h⟩
    · obtain ⟨e1, e2⟩ := hl D.length
      exact ⟨e1, add_known e1 e2⟩
theorem goS_known {D : List Nat} {n shut : Nat} {es : Memo} (h : Known D es) (i : Nat) : (goS D n shut es i).1 ≤ 1000000000000001 ∧ Known D (goS D n shut es i).2 := by
  obtain ⟨e1, e2⟩ := goS_known0 (goM_known D n) (shut := shut) h i
  exact ⟨by rw [e1]; exact Nat.min_le_right _ _, e2⟩
theorem alpha_nat {n : Int} {ds : List Int} (h : alphaOk n ds = true) : ∃ ms : List Nat, ds.map Int.toNat = ms ∧ n = ms.length ∧ ds = natI ms ∧ ms.length ≤ 8 ∧ (∀ m ∈ ms, m < 2 ^ ms.length) ∧ ∀ a < ms.length, (ms.getD a 0).testBit a = true ∧ ∀ b < ms.length, (ms.getD a 0).testBit b = (ms.getD b 0).testBit a := by
  unfold alphaOk at h
  simp only [Bool.and_eq_true, decide_eq_true_eq] at h
  obtain ⟨⟨⟨h1, h2⟩, h3⟩, h4⟩ := h
  obtain ⟨e1, e2⟩ := rel_nat h3
  refine ⟨_, rfl, by rw [List.length_map]; omega, e1, by rw [List.length_map]; omega, e2, symOk_iff.1 h4⟩
/-- What CountElements answers. -/
def cntR (n : Int) (ds : List Int) (m : Int) : Int × Int :=
  if alphaOk n ds then (if 0 ≤ m ∧ m ≤ 24 then (if cnt (dblN (ds.map Int.toNat)) m.toNat 0 > 1000000000000000 then (0, 3) else ((cnt (dblN (ds.map Int.toNat)) m.toNat 0 : Nat), 0)) else (0, 2)) else (0, 1)
/-- The numbers are small and the code is one of four. -/
theorem cntR_bad {n m : Int} {ds : List Int} (h : alphaOk n ds = false) : cntR n ds m = (0, 1) := by
  unfold cntR
  rw [if_neg (by rw [h]; simp)]
theorem cntR_out {n m : Int} {ds : List Int} (h : alphaOk n ds = true) (hm : ¬ (0 ≤ m ∧ m ≤ 24)) : cntR n ds m = (0, 2) := by
  unfold cntR
  rw [if_pos h, if_neg hm]
theorem cntR_in {n : Int} {k : Nat} {ds : List Int} {ms : List Nat} (h : alphaOk n ds = true) (hm : k ≤ 24) (he : ds.map Int.toNat = ms) : cntR n ds k = if cnt (dblN ms) k 0 > 1000000000000000 then ((0 : Int), (3 : Int)) else (((cnt (dblN ms) k 0 : Nat) : Int), 0) := by
  unfold cntR
  rw [if_pos h, if_pos (by omega), he, Int.toNat_natCast]
/-- Tables of numbers. -/
def rowsC (t : List (List Nat)) : Cell := .sl false 1 t.length (t.map fun r => ints (natI r))
def setT (t : List (List Nat)) (i j v : Nat) : List (List Nat) := t.set i ((t.getD i []).set j v)
def atT (t : List (List Nat)) (i j : Nat) : Nat := (t.getD i []).getD j 0
theorem rows_store {t : List (List Nat)} {a b v : Nat} {w : Int} (ha : a < t.length) (hb : b < t[a].length) (hw : w = (v : Nat)) : setC [Cell.sl false 1 t.length (t.map fun r => Cell.sl false 1 (natI r).length ((natI r).map i64))] 0 (.sl false 1 (natI t[a]).length (splice ((natI t[a]).map i64) ((b : Int).toNat * 1) [.c (.int .i64 w)])) (some ((a : Int).toNat * 1)) =
    [.sl false 1 (setT t a b v).length ((setT t a b v).map fun r => Cell.sl false 1 (natI r).length ((natI r).map i64))] := by
  have hr : t.getD a [] = t[a] := by rw [List.getD_eq_getElem?_getD, List.getElem?_eq_getElem ha, Option.getD_some]
  rw [setC_rows (f := fun r => Cell.sl false 1 (natI r).length ((natI r).map i64)) (v := t[a].set b v) rfl rfl]
  · unfold setT
    rw [hr, List.length_set]
    rfl
  · subst hw
    rw [splice_at rfl (by rw [natI_length]; exact hb), natI_set, natI_length, natI_length, List.length_set]
/-- The count by a table. -/
def goT (D : List Nat) : Nat → Nat → List (List Nat) → Nat × List (List Nat)
  | 0, _, t => (1, t)
  | n + 1, mask, t => if atT t (n + 1) mask > 0 then (atT t (n + 1) mask - 1, t) else
    let r := loopN (fun s (st : Nat × List (List Nat)) => if mask.testBit s then st else (st.1 + (goT D n (nxt D mask s) st.2).1, (goT D n (nxt D mask s) st.2).2)) D.length (0, t)
    (min r.1 1000000000000001, setT r.2 (n + 1) mask (min r.1 1000000000000001 + 1))
def goR (D : List Nat) (n mask : Nat) (t : List (List Nat)) (i : Nat) : Nat × List (List Nat) := loopN (fun s (st : Nat × List (List Nat)) => if mask.testBit s then st else (st.1 + (goT D n (nxt D mask s) st.2).1, (goT D n (nxt D mask s) st.2).2)) i (0, t)
theorem goR_succ (D : List Nat) (n mask : Nat) (t : List (List Nat)) (i : Nat) : goR D n mask t (i + 1) = if mask.testBit i then goR D n mask t i else ((goR D n mask t i).1 + (goT D n (nxt D mask i) (goR D n mask t i).2).1, (goT D n (nxt D mask i) (goR D n mask t i).2).2) := rfl
/-- The table has N rows of M numbers, and what stands there is right. -/
def KnownT (D : List Nat) (N M : Nat) (t : List (List Nat)) : Prop := t.length = N ∧ (∀ r ∈ t, r.length = M) ∧ ∀ i < N, ∀ j < M, atT t i j = 0 ∨ atT t i j = cnt D i j + 1
theorem setT_known {D : List Nat} {N M i j : Nat} {t : List (List Nat)} (h : KnownT D N M t) (hi : i < N) (hj : j < M) : KnownT D N M (setT t i j (cnt D i j + 1)) := by
  obtain ⟨h1, h2, h3⟩ := h
  have hrow : (t.getD i []).length = M := by
    rw [List.getD_eq_getElem?_getD, List.getElem?_eq_getElem (by omega), Option.getD_some]
    exact h2 _ (List.getElem_mem _)
  refine ⟨by simp [setT, h1], fun r hr => ?_, fun a ha b hb => ?_⟩
  · rcases List.mem_or_eq_of_mem_set hr with h | h
    · exact h2 r h
    · rw [h, List.length_set, hrow]
  · have hat : atT (setT t i j (cnt D i j + 1)) a b = if a = i ∧ b = j then cnt D i j + 1 else atT t a b := by
      unfold atT setT
      have hit : i < t.length := by omega
      simp only [List.getD_eq_getElem?_getD, List.getElem?_set] at hrow ⊢
      by_cases e : i = a
      · subst e
        rw [if_pos rfl, if_pos hit, Option.getD_some, List.getElem?_set, hrow]
        by_cases e2 : j = b
        · subst e2; simp [hb]
        · rw [if_neg e2, if_neg (fun h => e2 h.2.symm)]
      · rw [if_neg e, if_neg (fun h => e h.1.symm)]
    rw [hat]
    split
    · rename_i e; rw [e.1, e.2]; exact .inr rfl
    · exact h3 a ha b hb
theorem goR_known0 {D : List Nat} {N M n L : Nat} (hD : D.length = 2 * L) (hL : L ≤ 8) (hM : M = 2 ^ (2 * L)) (ih : ∀ mask t, mask < M → KnownT D N M t → (goT D n mask t).1 = cnt D n mask ∧ KnownT D N M (goT D n mask t).2) {mask : Nat} {t : List (List Nat)} (hm : mask < M) (h : KnownT D N M t) : ∀ i, i ≤ D.length → (goR D n mask t i).1 = sumN (trm D n mask) i ∧ KnownT D N M (goR D n mask t i).2
  | 0, _ => ⟨rfl, h⟩
  | i + 1, hi => by
    have ihi := goR_known0 hD hL hM ih hm h i (by omega)
    rw [goR_succ, sumN, trm]
    split
    · exact ⟨by rw [ihi.1, Nat.add_zero], ihi.2⟩
    · obtain ⟨e1, e2⟩ := ih (nxt D mask i) _ (by rw [hM] at hm ⊢; exact nxt_lt hL hm (by omega)) ihi.2
      exact ⟨by simp only; rw [e1, ihi.1], e2⟩
theorem goT_known {D : List Nat} {N M L : Nat} (hD : D.length = 2 * L) (hL : L ≤ 8) (hM : M = 2 ^ (2 * L)) : ∀ n, n < N → ∀ mask t, mask < M → KnownT D N M t → (goT D n mask t).1 = cnt D n mask ∧ KnownT D N M (goT D n mask t).2
  | 0, _, _, _, _, h => ⟨rfl, h⟩
  | n + 1, hn, mask, t, hm, h => by
    have hl := goR_known0 hD hL hM (goT_known hD hL hM n (by omega)) hm h D.length (Nat.le_refl _)
    unfold goT
    split
    · rename_i hv
      exact ⟨by rcases h.2.2 (n + 1) hn mask hm with h0 | h0 <;> simp only <;> omega, h⟩
    · obtain ⟨e1, e2⟩ := hl
      have e3 : min (goR D n mask t D.length).1 1000000000000001 = cnt D (n + 1) mask := by rw [e1, cnt_succ]
      refine ⟨e3, ?_⟩
      show KnownT D N M (setT (goR D n mask t D.length).2 (n + 1) mask (min (goR D n mask t D.length).1 1000000000000001 + 1))
      rw [e3]
      exact setT_known e2 hn hm
theorem goR_known {D : List Nat} {N M L n : Nat} (hD : D.length = 2 * L) (hL : L ≤ 8) (hM : M = 2 ^ (2 * L)) (hn : n < N) {mask : Nat} {t : List (List Nat)} (hm : mask < M) (h : KnownT D N M t) {i : Nat} (hi : i ≤ D.length) : (goR D n mask t i).1 ≤ i * 1000000000000001 ∧ KnownT D N M (goR D n mask t i).2 := by
  obtain ⟨e1, e2⟩ := goR_known0 hD hL hM (goT_known hD hL hM n hn) hm h i hi
  exact ⟨by rw [e1]; exact sumN_le (trm_le D n mask) i, e2⟩
end Go.Proofs.YtihdeagknggeiaaDoor
