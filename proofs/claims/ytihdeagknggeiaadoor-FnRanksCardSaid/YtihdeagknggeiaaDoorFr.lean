import Derived.Test.YtihdeagknggeiaaDoorFq
set_option autoImplicit false
set_option linter.unusedSimpArgs false
set_option linter.unusedVariables false
namespace Go.Proofs.YtihdeagknggeiaaDoor
open Go.Den
/-- The masks of the numbers below n. -/
def powsN (n : Nat) : List Nat := (List.range n).map fun j => 2 ^ j
theorem powsN_length (n : Nat) : (powsN n).length = n := by simp [powsN]
theorem powsN_succ (n : Nat) : powsN (n + 1) = powsN n ++ [2 ^ n] := by simp [powsN, List.range_succ]
def depN : Nat → Cell
  | 0 => nilS
  | i + 1 => .sl false 1 (i + 1) ((natI (powsN (i + 1))).map i64)
theorem depN_le : ∀ n, OLe (depN n) (ints (natI (powsN n)))
  | 0 => .nil _ _
  | n + 1 => by
    unfold ints
    rw [natI_length, powsN_length]
    exact .refl _
/-- What becomes of row r of the arranged relation. -/
def arR (ms s : List Nat) (r q : Nat) : Nat := 2 ^ r ||| maskN (fun k => dep ms (s.getD r 0) (s.getD k 0)) q
def arL (ms s : List Nat) (i j : Nat) : List Nat := (List.range s.length).map fun r => arR ms s r (if r < i then s.length else if r = i then j else 0)
theorem arL_length (ms s : List Nat) (i j : Nat) : (arL ms s i j).length = s.length := by simp [arL]
theorem arL_zero (ms s : List Nat) : arL ms s 0 0 = powsN s.length := by
  unfold arL powsN
  refine List.map_congr_left fun r _ => ?_
  rw [if_neg (by omega), ite_self]
  simp [arR, maskN]
theorem arL_next (ms s : List Nat) (i : Nat) : arL ms s i s.length = arL ms s (i + 1) 0 := by
  unfold arL
  refine List.map_congr_left fun r _ => ?_
  by_cases h : r < i
  · rw [if_pos h, if_pos (by omega)]
  · rw [if_neg h]
    by_cases e : r = i
    · rw [if_pos e, if_pos (by omega)]
    · rw [if_neg e, if_neg (by omega), ite_self]
theorem arL_get {ms s : List Nat} {i j : Nat} (hi : i < s.length) (h : i < (arL ms s i j).length) : (arL ms s i j)[i] = arR ms s i j := by simp [arL]
theorem arL_getD {ms s : List Nat} {i j : Nat} (hi : i < s.length) : (arL ms s i j).getD i 0 = arR ms s i j := by
  rw [List.getD_eq_getElem?_getD, List.getElem?_eq_getElem (by rw [arL_length]; exact hi), Option.getD_some, arL_get hi]
theorem arL_set {ms s : List Nat} {i j : Nat} (hi : i < s.length) : (arL ms s i j).set i (arR ms s i (j + 1)) = arL ms s i (j + 1) := by
  refine List.ext_getElem (by simp [arL_length]) fun r h1 h2 => ?_
  rw [List.getElem_set]
  by_cases e : i = r
  · subst e
    rw [if_pos rfl, arL_get hi]
  · rw [if_neg e]
    simp only [arL, List.getElem_map, List.getElem_range]
    by_cases h : r < i
    · rw [if_pos h, if_pos h]
    · rw [if_neg h, if_neg h, if_neg (Ne.symm e), if_neg (Ne.symm e)]
theorem arR_succ_t {ms s : List Nat} {r q : Nat} (h : dep ms (s.getD r 0) (s.getD q 0) = true) : arR ms s r (q + 1) = arR ms s r q ||| 2 ^ q := by
  unfold arR
  rw [maskN_or, if_pos h, ← Nat.or_assoc]
theorem arR_succ_f {ms s : List Nat} {r q : Nat} (h : dep ms (s.getD r 0) (s.getD q 0) = false) : arR ms s r (q + 1) = arR ms s r q := by
  unfold arR
  rw [maskN_or, if_neg (by rw [h]; simp), Nat.or_zero]
theorem arL_same {ms s : List Nat} {i j : Nat} (h : arR ms s i (j + 1) = arR ms s i j) : arL ms s i (j + 1) = arL ms s i j := by
  unfold arL
  refine List.map_congr_left fun r _ => ?_
  by_cases h1 : r < i
  · rw [if_pos h1, if_pos h1]
  · by_cases e : r = i
    · subst e
      rw [if_neg h1, if_neg h1, if_pos rfl, if_pos rfl, h]
    · rw [if_neg h1, if_neg h1, if_neg e, if_neg e]
theorem arR_lt {ms s : List Nat} {r q : Nat} (hr : r < 62) (hq : q ≤ 62) : arR ms s r q < 2 ^ 63 := Nat.or_lt_two_pow (Nat.pow_lt_pow_right (by decide) (by omega)) (maskN_lt63 _ hq)
/-- The set of the letters of a word. -/
def setN (n : Nat) (s : List Nat) : Nat := maskN (fun a => s.any (· == a)) n
set_option maxHeartbeats 16000000 in
set_option maxRecDepth 100000 in
theorem setN_nil (n : Nat) : setN n [] = 0 := by
  refine Nat.eq_of_testBit_eq fun i => ?_
  simp [setN, maskN_bit]
theorem setN_snoc {n : Nat} (s : List Nat) {c : Nat} (hc : c < n) : setN n (s ++ [c]) = setN n s ||| 2 ^ c := by
  refine Nat.eq_of_testBit_eq fun i => ?_
  unfold setN
  rw [Nat.testBit_or, maskN_bit, maskN_bit, Nat.testBit_two_pow, List.any_append]
  by_cases e : c = i
  · subst e; simp [hc]
  · have e' : (c == i) = false := by simpa using e
    simp [e, e']
set_option maxHeartbeats 16000000 in
set_option maxRecDepth 100000 in
theorem allLetters_ret (n : Nat) (ds : List Int) (hn : n < 62) : Ret Tryd.prog G0 93 [⟨.ro, .agg [i64 n, ints ds]⟩] ⟨.one (i64 ((2 ^ n - 1 : Nat) : Int)), []⟩ := by
  have h1 := Nat.two_pow_pos n
  have h2 : 2 ^ n < 2 ^ 62 := Nat.pow_lt_pow_right (by decide) hn
  have hw : IntKind.i64.wrap (((2 ^ n : Nat) : Int) - 1) = ((2 ^ n - 1 : Nat) : Int) := by rw [wrap_i64 (by omega) (by omega)]; omega
  (refine ret_of_den (E := en 7 [] (fun _ => []) (fun _ => [])) tt_ok mixed Tryd.func93 rfl rfl rfl rfl ?_; refine ⟨by simp, ?_⟩)
  repeat' (first | ((first | refine opt_some (getC_rows rfl rfl (by omega)) ?_ | refine opt_some (by dsimp only; exact getC_lent rfl rfl (by omega)) ?_ | refine opt_some rfl ?_ | refine ⟨_, (by simp only [nf, nl, nm, en, ints, setC_setC, Nat.reduceAdd, Nat.reduceMul]; exact rfl), ?_⟩ | refine ⟨_, pickT rfl, ?_⟩ | refine ⟨_, rfl, ?_⟩ | refine iteP_true rfl ?_ | refine iteP_false rfl ?_ | refine iteP_true ‹_› ?_ | refine iteP_false ‹_› ?_ | refine andK ?_ | refine andA ?_ | refine andT ?_); conv => whnf) | (refine iteP_intro (fun hb => ?_) (fun hb => ?_) <;> (conv => whnf)))
  (refine ⟨_, one_retN n (by omega), ?_⟩; conv => whnf)
  repeat' (first | ((first | refine opt_some (getC_rows rfl rfl (by omega)) ?_ | refine opt_some (by dsimp only; exact getC_lent rfl rfl (by omega)) ?_ | refine opt_some rfl ?_ | refine ⟨_, (by simp only [nf, nl, nm, en, ints, setC_setC, Nat.reduceAdd, Nat.reduceMul, hw]; exact rfl), ?_⟩ | refine ⟨_, pickT rfl, ?_⟩ | refine ⟨_, rfl, ?_⟩ | refine iteP_true rfl ?_ | refine iteP_false rfl ?_ | refine iteP_true ‹_› ?_ | refine iteP_false ‹_› ?_ | refine andK ?_ | refine andA ?_ | refine andT ?_); conv => whnf) | (refine iteP_intro (fun hb => ?_) (fun hb => ?_) <;> (conv => whnf)))
  rfl
/-- Is a list of letters a symmetry? -/
def symP (ms s : List Nat) : Bool := (List.range ms.length).all fun a => (List.range ms.length).all fun b => (a == b || s.getD a 0 != s.getD b 0) && (dep ms a b == dep ms (s.getD a 0) (s.getD b 0))
theorem symP_all {ms s : List Nat} (h : symP ms s = true) {a b : Nat} (ha : a < ms.length) (hb : b < ms.length) : (a = b ∨ s.getD a 0 ≠ s.getD b 0) ∧ dep ms a b = dep ms (s.getD a 0) (s.getD b 0) := by
  unfold symP at h
  simp only [List.all_eq_true, List.mem_range, Bool.and_eq_true, Bool.or_eq_true, beq_iff_eq, bne_iff_ne] at h
  exact h a ha b hb
theorem symP_of {ms s : List Nat} (h : ∀ a < ms.length, ∀ b < ms.length, (a = b ∨ s.getD a 0 ≠ s.getD b 0) ∧ dep ms a b = dep ms (s.getD a 0) (s.getD b 0)) : symP ms s = true := by
  unfold symP
  simp only [List.all_eq_true, List.mem_range, Bool.and_eq_true, Bool.or_eq_true, beq_iff_eq, bne_iff_ne]
  exact h
theorem symP_f {ms s : List Nat} {a b : Nat} (ha : a < ms.length) (hb : b < ms.length) (h : ¬ ((a = b ∨ s.getD a 0 ≠ s.getD b 0) ∧ dep ms a b = dep ms (s.getD a 0) (s.getD b 0))) : symP ms s = false := by
  cases hc : symP ms s with
  | false => rfl
  | true => exact absurd (symP_all hc ha hb) h
/-- Pigeons. -/
theorem range_le : ∀ {n : Nat} {t : List Nat}, (∀ i < n, i ∈ t) → n ≤ t.length
  | 0, _, _ => Nat.zero_le _
  | n + 1, t, h => by
    have h1 : n ∈ t := h n (by omega)
    have h2 := range_le (n := n) (t := t.erase n) fun i hi => (List.mem_erase_of_ne (by omega)).2 (h i (by omega))
    have h3 := erase_length h1
    have h4 := List.length_pos_of_mem h1
    omega
theorem nodup_le : ∀ {n : Nat} {t : List Nat}, t.Nodup → (∀ a ∈ t, a < n) → t.length ≤ n
  | 0, t, _, h => by
    cases t with
    | nil => simp
    | cons a t => exact absurd (h a (by simp)) (by omega)
  | n + 1, t, hn, h => by
    have h2 := nodup_le (n := n) (t := t.erase n) (hn.erase n) fun a ha => by
      have h1 := h a (List.mem_of_mem_erase ha)
      have h3 : a ≠ n := fun e => by
        subst e
        exact (hn.not_mem_erase) ha
      omega
    by_cases hm : n ∈ t
    · have := erase_length hm
      omega
    · rw [List.erase_of_not_mem hm] at h2
      omega
theorem nodup_getD {s : List Nat} : s.Nodup ↔ ∀ i < s.length, ∀ j < s.length, i = j ∨ s.getD i 0 ≠ s.getD j 0 := by
  have hg : ∀ {i : Nat} (h : i < s.length), s.getD i 0 = s[i] := fun h => by rw [List.getD_eq_getElem?_getD, List.getElem?_eq_getElem h, Option.getD_some]
  unfold List.Nodup
  rw [List.pairwise_iff_getElem]
  constructor
  · intro h i hi j hj
    rcases Nat.lt_trichotomy i j with hl | e | hl
    · right
      rw [hg hi, hg hj]
      exact h i j hi hj hl
    · exact .inl e
    · right
      rw [hg hi, hg hj]
      exact (h j i hj hi hl).symm
  · intro h i j hi hj hl
    rcases h i hi j hj with e | e
    · omega
    · rwa [hg hi, hg hj] at e
theorem setN_full {n : Nat} {s : List Nat} (hs : ∀ a ∈ s, a < n) (hl : s.length = n) : setN n s = 2 ^ n - 1 ↔ s.Nodup := by
  have hfull : setN n s = 2 ^ n - 1 ↔ ∀ i < n, i ∈ s := by
    constructor
    · intro h i hi
      have h1 : (setN n s).testBit i = true := by rw [h, Nat.testBit_two_pow_sub_one]; simpa using hi
      unfold setN at h1
      rw [maskN_bit, Bool.and_eq_true, List.any_eq_true] at h1
      obtain ⟨-, x, hx, hxe⟩ := h1
      rw [beq_iff_eq] at hxe
      subst hxe
      exact hx
    · intro h
      refine Nat.eq_of_testBit_eq fun i => ?_
      rw [Nat.testBit_two_pow_sub_one]
      unfold setN
      rw [maskN_bit]
      by_cases hi : i < n
      · rw [show (s.any fun x => x == i) = true from List.any_eq_true.2 ⟨i, h i hi, by simp⟩, Bool.and_true]
      · simp [hi]
  rw [hfull]
  constructor
  · intro h
    rw [nodup_getD]
    intro i hi j hj
    by_cases e : i = j
    · exact .inl e
    · refine .inr fun he => ?_
      -- without the letter at j, all letters are still there
      have h2 : ∀ k < n, k ∈ s.eraseIdx j := fun k hk => by
        obtain ⟨p, hp, rfl⟩ := List.getElem_of_mem (h k hk)
        rw [List.mem_eraseIdx_iff_getElem]
        have hg : ∀ {i : Nat} (h : i < s.length), s.getD i 0 = s[i] := fun h => by rw [List.getD_eq_getElem?_getD, List.getElem?_eq_getElem h, Option.getD_some]
        by_cases hpj : p = j
        · subst hpj
          exact ⟨i, hi, e, by rw [← hg hi, he, hg hp]⟩
        · exact ⟨p, hp, hpj, rfl⟩
      have h3 := range_le h2
      rw [List.length_eraseIdx, if_pos hj] at h3
      omega
  · intro h i hi
    refine Decidable.byContradiction fun hn => ?_
    have := nodup_le (n := n) (t := i :: s) (List.nodup_cons.2 ⟨hn, h⟩) fun a ha => by
      rcases List.mem_cons.1 ha with rfl | ha
      · exact hi
      · exact hs a ha
    simp at this
    omega
theorem arL_eq {ms s : List Nat} (hA : Alpha ms) (hl : s.length = ms.length) (hs : ∀ a ∈ s, a < ms.length) : arL ms s s.length 0 = ms ↔ ∀ a < ms.length, ∀ b < ms.length, dep ms a b = dep ms (s.getD a 0) (s.getD b 0) := by
  have hrow : ∀ r < ms.length, arR ms s r s.length = maskN (fun k => dep ms (s.getD r 0) (s.getD k 0)) s.length := fun r hr => by
    refine Nat.eq_of_testBit_eq fun i => ?_
    unfold arR
    rw [Nat.testBit_or, maskN_bit, Nat.testBit_two_pow]
    by_cases e : r = i
    · subst e
      rw [hA.self _ (wd_lt hs (by omega)), decide_eq_true (show r < s.length by omega)]
      simp
    · simp [e]
  have hget : ∀ r (h1 : r < (arL ms s s.length 0).length), (arL ms s s.length 0)[r] = maskN (fun k => dep ms (s.getD r 0) (s.getD k 0)) s.length := fun r h1 => by
    have hr : r < s.length := by rw [arL_length] at h1; exact h1
    simp only [arL, List.getElem_map, List.getElem_range]
    rw [if_pos hr, hrow r (by omega)]
  constructor
  · intro h a ha b hb
    have h1 := hget a (by rw [arL_length]; omega)
    have h2 : (arL ms s s.length 0)[a]'(by rw [arL_length]; omega) = ms.getD a 0 := by
      rw [List.getD_eq_getElem?_getD, List.getElem?_eq_getElem ha, Option.getD_some]
      simp only [h]
    rw [h2] at h1
    show (ms.getD a 0).testBit b = _
    rw [h1, maskN_bit, decide_eq_true (by omega), Bool.true_and]
  · intro h
    refine List.ext_getElem (by rw [arL_length]; exact hl) fun r h1 h2 => ?_
    rw [hget r h1]
    refine Nat.eq_of_testBit_eq fun i => ?_
    rw [maskN_bit]
    by_cases hi : i < ms.length
    · rw [decide_eq_true (by omega), Bool.true_and, ← h r h2 i hi]
      show (ms.getD r 0).testBit i = _
      rw [List.getD_eq_getElem?_getD, List.getElem?_eq_getElem h2, Option.getD_some]
    · rw [decide_eq_false (by omega), Bool.false_and]
      refine (Nat.testBit_lt_two_pow (Nat.lt_of_lt_of_le (hA.lt _ (List.getElem_mem h2)) (Nat.pow_le_pow_right (by decide) (by omega)))).symm
theorem symP_eq {ms s : List Nat} (hA : Alpha ms) (hl : s.length = ms.length) (hs : ∀ a ∈ s, a < ms.length) : symP ms s = (decide (setN ms.length s = 2 ^ ms.length - 1) && decide (arL ms s s.length 0 = ms)) := by
  rw [Bool.eq_iff_iff, Bool.and_eq_true, decide_eq_true_eq, decide_eq_true_eq, setN_full hs hl, arL_eq hA hl hs, nodup_getD, hl]
  constructor
  · intro h
    exact ⟨fun i hi j hj => (symP_all h hi hj).1, fun a ha b hb => (symP_all h ha hb).2⟩
  · intro ⟨h1, h2⟩
    exact symP_of fun a ha b hb => ⟨h1 a ha b hb, h2 a ha b hb⟩
theorem all_in {ms s : List Nat} (hs : ∀ a ∈ s, a < ms.length) : ((natI s).all fun n => decide (0 ≤ n ∧ n ≤ (ms.length : Int) - 1)) = true := by
  rw [List.all_eq_true]
  intro x hx
  obtain ⟨a, ha, rfl⟩ := List.mem_map.1 hx
  have := hs a ha
  exact decide_eq_true (by omega)
/-- The letters of a word replaced. -/
def trnN (s w : List Nat) : List Nat := w.map fun a => s.getD a 0
theorem trnN_length (s w : List Nat) : (trnN s w).length = w.length := List.length_map _
theorem trnN_succ {s w : List Nat} {i : Nat} (h : i < w.length) : trnN s (w.take (i + 1)) = trnN s (w.take i) ++ [s.getD (w.getD i 0) 0] := by
  rw [take_succ_getD h]
  simp [trnN]
theorem trnN_wd {ms s w : List Nat} (hs : ∀ a ∈ s, a < ms.length) (hw : ∀ c ∈ w, c < s.length) : Wd ms (trnN s w) := fun c hc => by
  obtain ⟨a, ha, rfl⟩ := List.mem_map.1 hc
  exact wd_lt hs (hw a ha)
/-- What ApplySymmetry answers. -/
def appR (n : Int) (ds ss xs : List Int) : List Nat × Int :=
  if alphaOk n ds then (if decide ((ss.length : Int) = n) && wordN n ss && wordN n xs then (if symP (ds.map Int.toNat) (ss.map Int.toNat) then (nform (ds.map Int.toNat) (trnN (ss.map Int.toNat) (xs.map Int.toNat)), 0) else ([], 5)) else ([], 2)) else ([], 1)
section
variable {n : Int} {ds ss xs : List Int}
theorem appR_1 (h : alphaOk n ds = false) : appR n ds ss xs = ([], 1) := by
  unfold appR
  rw [if_neg (by rw [h]; simp)]
theorem appR_2 (h1 : alphaOk n ds = true) (h : (decide ((ss.length : Int) = n) && wordN n ss && wordN n xs) = false) : appR n ds ss xs = ([], 2) := by
  unfold appR
  rw [if_pos h1, if_neg (by rw [h]; simp)]
theorem appR_3 (h1 : alphaOk n ds = true) (h : (decide ((ss.length : Int) = n) && wordN n ss && wordN n xs) = true) {ms s w : List Nat} (e1 : ds.map Int.toNat = ms) (e2 : ss.map Int.toNat = s) (e3 : xs.map Int.toNat = w) :
    appR n ds ss xs = if symP ms s then (nform ms (trnN s w), 0) else ([], 5) := by
  unfold appR
  rw [if_pos h1, if_pos h, e1, e2, e3]
end
theorem appR_nz {n : Int} {ds ss xs : List Int} (h : (appR n ds ss xs).2 ≠ 0) : (appR n ds ss xs).1 = [] := by
  unfold appR at h ⊢
  split
  · rename_i h1
    rw [if_pos h1] at h
    split
    · rename_i h2
      rw [if_pos h2] at h
      split
      · rename_i h3
        rw [if_pos h3] at h
        exact absurd rfl h
      · rfl
    · rfl
  · rfl
theorem ints_nil_le {w : List Nat} (h : w = []) : OLe nilS (ints (natI w)) := by subst h; exact .nil _ _
theorem appR_le (n : Int) (ds ss xs : List Int) : (appR n ds ss xs).2 ≠ 0 → OLe nilS (ints (natI (appR n ds ss xs).1)) := fun h => ints_nil_le (appR_nz h)
/-- What is given to a symmetry that is valid. -/
theorem app_ok {n : Int} {ds ss xs : List Int} (h1 : alphaOk n ds = true) (h : (decide ((ss.length : Int) = n) && wordN n ss && wordN n xs) = true) : ∃ ms s w : List Nat, ds.map Int.toNat = ms ∧ ss.map Int.toNat = s ∧ xs.map Int.toNat = w ∧ n = ms.length ∧ ds = natI ms ∧ ms.length ≤ 8 ∧ Alpha ms ∧ ss = natI s ∧ s.length = ms.length ∧ (∀ a ∈ s, a < ms.length) ∧ xs = natI w ∧ w.length ≤ 24 ∧ (∀ c ∈ w, c < s.length) := by
  rw [Bool.and_eq_true, Bool.and_eq_true, decide_eq_true_eq] at h
  obtain ⟨⟨h2, h3⟩, h4⟩ := h
  obtain ⟨ms, e1, rfl, rfl, hl1, hA⟩ := alpha_ok h1
  obtain ⟨s, e2, rfl, hsl, hsd⟩ := word_nat h3
  obtain ⟨w, e3, rfl, hwl, hwd⟩ := word_nat h4
  rw [natI_length] at h2
  exact ⟨ms, s, w, e1, e2, e3, rfl, rfl, hl1, hA, rfl, by omega, word_wd hsd, rfl, hwl, fun c hc => by have := hwd c hc; omega⟩
theorem appR_len (n : Int) (ds ss xs : List Int) : (natI (appR n ds ss xs).1).length ≤ 24 := by
  rw [natI_length]
  cases h1 : alphaOk n ds with
  | false => rw [appR_1 h1]; simp
  | true =>
    cases h : (decide ((ss.length : Int) = n) && wordN n ss && wordN n xs) with
    | false => rw [appR_2 h1 h]; simp
    | true =>
      obtain ⟨ms, s, w, e1, e2, e3, rfl, rfl, hl1, hA, rfl, hsl, hs, rfl, hwl, hw⟩ := app_ok h1 h
      rw [appR_3 h1 h e1 e2 e3]
      split
      · dsimp only
        rw [nform_length hA (trnN_wd hs hw), trnN_length]
        exact hwl
      · simp
end Go.Proofs.YtihdeagknggeiaaDoor
