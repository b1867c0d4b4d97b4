import Derived.Test.YtihdeagknggeiaaDoorFw
set_option autoImplicit false
set_option linter.unusedSimpArgs false
set_option linter.unusedVariables false
namespace Go.Proofs.YtihdeagknggeiaaDoor
open Go.Den
/-! Traces by content. -/
def smC (c : List Nat) : Nat := smN (fun a => c.getD a 0) c.length
def thrC (c : List Nat) (i : Nat) : Nat := maskN (fun a => decide (0 < c.getD a 0)) i
def lessC (s : Nat) (c : List Nat) : List Nat := (List.range c.length).map fun a => c.getD a 0 - (if s.testBit a then 1 else 0)
def sgC (s : Nat) : Int := 2 * ((popR 8 s % 2 : Nat) : Int) - 1
/-- Does the set belong to the letters that are there, and has it any? -/
def useC (c : List Nat) (s : Nat) : Bool := decide (s ≠ 0) && decide (andn s (thrC c c.length) = 0)
def cntC (S : List Nat) : Nat → List Nat → Int
  | 0, _ => 1
  | f + 1, c => if thrC c c.length = 0 then 1 else S.foldl (fun acc s => if useC c s then IntKind.i64.wrap (acc + IntKind.i64.wrap (sgC s * cntC S f (lessC s c))) else acc) 0
theorem lessC_len (s : Nat) (c : List Nat) : (lessC s c).length = c.length := by simp [lessC]
theorem lessC_get (s : Nat) (c : List Nat) {a : Nat} (h : a < c.length) : (lessC s c).getD a 0 = c.getD a 0 - (if s.testBit a then 1 else 0) := by
  unfold lessC
  rw [List.getD_eq_getElem?_getD, List.getElem?_map, List.getElem?_range h]
  rfl
theorem smN_mono {f g : Nat → Nat} : ∀ n, (∀ a < n, f a ≤ g a) → smN f n ≤ smN g n
  | 0, _ => Nat.le_refl _
  | n + 1, h => by
    have h1 := smN_mono n fun a ha => h a (by omega)
    have h2 := h n (by omega)
    rw [smN, smN]
    omega
theorem smN_strict {f g : Nat → Nat} : ∀ n, (∀ a < n, f a ≤ g a) → (∃ a < n, f a < g a) → smN f n < smN g n
  | 0, _, ⟨a, ha, _⟩ => by omega
  | n + 1, h, ⟨a, ha, hl⟩ => by
    have h2 := h n (by omega)
    rw [smN, smN]
    by_cases e : a = n
    · subst e
      have h1 := smN_mono a fun b hb => h b (by omega)
      omega
    · have h1 := smN_strict n (fun b hb => h b (by omega)) ⟨a, by omega, hl⟩
      omega
theorem thrC_zero {c : List Nat} (h : thrC c c.length = 0) : ∀ a < c.length, c.getD a 0 = 0 := fun a ha => by
  have := congrArg (fun m => m.testBit a) h
  simp only [thrC, maskN_bit, Nat.zero_testBit, decide_eq_true ha, Bool.true_and] at this
  have := of_decide_eq_false this
  omega
theorem smC_zero {c : List Nat} (h : smC c = 0) : thrC c c.length = 0 := Nat.eq_of_testBit_eq fun a => by
  unfold thrC
  rw [maskN_bit, Nat.zero_testBit]
  by_cases ha : a < c.length
  · have := smN_le (f := fun a => c.getD a 0) c.length ha
    unfold smC at h
    rw [decide_eq_false (show ¬ 0 < c.getD a 0 by omega), Bool.and_false]
  · rw [decide_eq_false ha, Bool.false_and]
theorem useC_bits {c : List Nat} {s : Nat} (hs : s < 2 ^ 63) (h : useC c s = true) : s ≠ 0 ∧ ∀ a, s.testBit a = true → a < c.length ∧ 0 < c.getD a 0 := by
  unfold useC at h
  rw [Bool.and_eq_true] at h
  refine ⟨of_decide_eq_true h.1, fun a ha => ?_⟩
  have h2 := congrArg (fun m => m.testBit a) (of_decide_eq_true h.2)
  simp only [andn_bit _ _ hs, Nat.zero_testBit, ha, Bool.true_and] at h2
  unfold thrC at h2
  rw [maskN_bit] at h2
  have h3 : (decide (a < c.length) && decide (0 < c.getD a 0)) = true := by simpa using h2
  rw [Bool.and_eq_true] at h3
  exact ⟨of_decide_eq_true h3.1, of_decide_eq_true h3.2⟩
theorem lessC_sum {c : List Nat} {s : Nat} (hs : s < 2 ^ 63) (h : useC c s = true) : smC (lessC s c) < smC c := by
  obtain ⟨h0, hb⟩ := useC_bits hs h
  unfold smC
  rw [lessC_len]
  refine smN_strict _ (fun a ha => by rw [lessC_get s c ha]; omega) ?_
  have : ∃ a, s.testBit a = true := by
    refine Classical.byContradiction fun hn => h0 (Nat.eq_of_testBit_eq fun a => ?_)
    rw [Nat.zero_testBit]
    cases ha : s.testBit a with
    | false => rfl
    | true => exact absurd ⟨a, ha⟩ hn
  obtain ⟨a, ha⟩ := this
  obtain ⟨h1, h2⟩ := hb a ha
  refine ⟨a, h1, ?_⟩
  rw [lessC_get s c h1, ha, if_pos rfl]
  omega
theorem foldl_congr {α β : Type} {f g : β → α → β} : ∀ {l : List α} {b : β}, (∀ b x, x ∈ l → f b x = g b x) → l.foldl f b = l.foldl g b
  | [], _, _ => rfl
  | x :: l, b, h => by
    rw [List.foldl_cons, List.foldl_cons, h b x (by simp)]
    exact foldl_congr fun b y hy => h b y (List.mem_cons_of_mem _ hy)
/-- More fuel than letters changes nothing. -/
theorem cntC_fuel {S : List Nat} (hS : ∀ s ∈ S, s < 2 ^ 63) : ∀ (f g : Nat) (c : List Nat), smC c ≤ f → smC c ≤ g → cntC S f c = cntC S g c
  | 0, 0, _, _, _ => rfl
  | 0, g + 1, c, h, _ => by rw [cntC, cntC, if_pos (smC_zero (by omega))]
  | f + 1, 0, c, _, h => by rw [cntC, cntC, if_pos (smC_zero (by omega))]
  | f + 1, g + 1, c, h1, h2 => by
    rw [cntC, cntC]
    split
    · rfl
    · refine foldl_congr fun acc s hs => ?_
      by_cases hu : useC c s = true
      · have := lessC_sum (hS s hs) hu
        rw [if_pos hu, if_pos hu, cntC_fuel hS f g _ (by omega) (by omega)]
      · rw [if_neg hu, if_neg hu]
/-- The number of traces with a content. -/
def valC (S : List Nat) (c : List Nat) : Int := cntC S (smC c) c
/-- What the first i steps give. -/
def accC (S : List Nat) (c : List Nat) (i : Nat) : Int := (S.take i).foldl (fun acc s => if useC c s then IntKind.i64.wrap (acc + IntKind.i64.wrap (sgC s * valC S (lessC s c))) else acc) 0
theorem valC_rec {S : List Nat} (hS : ∀ s ∈ S, s < 2 ^ 63) {c : List Nat} (h : thrC c c.length ≠ 0) : valC S c = accC S c S.length := by
  unfold valC accC
  rw [List.take_length]
  have h0 : smC c ≠ 0 := fun e => h (smC_zero e)
  obtain ⟨f, hf⟩ : ∃ f, smC c = f + 1 := ⟨smC c - 1, by omega⟩
  rw [hf, cntC, if_neg h]
  refine foldl_congr fun acc s hs => ?_
  by_cases hu : useC c s = true
  · have := lessC_sum (hS s hs) hu
    rw [if_pos hu, if_pos hu, valC, cntC_fuel hS f (smC (lessC s c)) _ (by omega) (Nat.le_refl _)]
  · rw [if_neg hu, if_neg hu]
theorem valC_one {S : List Nat} {c : List Nat} (h : thrC c c.length = 0) : valC S c = 1 := by
  unfold valC
  cases smC c with
  | zero => rfl
  | succ f => rw [cntC, if_pos h]
theorem accC_succ {S : List Nat} {c : List Nat} {i s : Nat} (hi : i < S.length) (hs : S[i] = s) : accC S c (i + 1) = if useC c s then IntKind.i64.wrap (accC S c i + IntKind.i64.wrap (sgC s * valC S (lessC s c))) else accC S c i := by
  unfold accC
  rw [List.take_add_one, List.getElem?_eq_getElem hi, List.foldl_append, hs]
  rfl
/-! Contents as numbers. -/
def keyA (c : List Nat) : Nat → Nat
  | 0 => 0
  | i + 1 => keyA c i + c.getD i 0 * 2 ^ (5 * i)
theorem getD_le {c : List Nat} {b : Nat} (h : ∀ x ∈ c, x ≤ b) (a : Nat) : c.getD a 0 ≤ b := by
  rw [List.getD_eq_getElem?_getD]
  cases ha : c[a]? with
  | none => exact Nat.zero_le _
  | some x => exact h x (List.mem_of_getElem? ha)
theorem keyA_lt {c : List Nat} (h : ∀ x ∈ c, x ≤ 24) : ∀ i, keyA c i < 2 ^ (5 * i)
  | 0 => by simp [keyA]
  | i + 1 => by
    have h1 := keyA_lt h i
    have h2 := getD_le h i
    have h3 : c.getD i 0 * 2 ^ (5 * i) ≤ 24 * 2 ^ (5 * i) := Nat.mul_le_mul_right _ h2
    have h4 : 2 ^ (5 * (i + 1)) = 32 * 2 ^ (5 * i) := by rw [show 5 * (i + 1) = 5 * i + 5 by omega, Nat.pow_add]; omega
    rw [keyA, h4]
    omega
theorem keyA_inj {c d : List Nat} (hc : ∀ x ∈ c, x ≤ 24) (hd : ∀ x ∈ d, x ≤ 24) : ∀ i, keyA c i = keyA d i → ∀ a < i, c.getD a 0 = d.getD a 0
  | 0, _, a, ha => by omega
  | i + 1, h, a, ha => by
    have h1 := keyA_lt hc i
    have h2 := keyA_lt hd i
    rw [keyA, keyA] at h
    have hp := Nat.two_pow_pos (5 * i)
    have e1 : c.getD i 0 = d.getD i 0 := by
      have : (keyA c i + c.getD i 0 * 2 ^ (5 * i)) / 2 ^ (5 * i) = (keyA d i + d.getD i 0 * 2 ^ (5 * i)) / 2 ^ (5 * i) := by rw [h]
      rw [Nat.add_mul_div_right _ _ hp, Nat.add_mul_div_right _ _ hp, Nat.div_eq_of_lt h1, Nat.div_eq_of_lt h2] at this
      omega
    rw [e1] at h
    by_cases e : a = i
    · rw [e]; exact e1
    · exact keyA_inj hc hd i (by omega) a (by omega)
theorem list_eq {c d : List Nat} (hl : c.length = d.length) (h : ∀ a < c.length, c.getD a 0 = d.getD a 0) : c = d := by
  refine List.ext_getElem hl fun a h1 h2 => ?_
  have := h a h1
  rw [List.getD_eq_getElem?_getD, List.getD_eq_getElem?_getD, List.getElem?_eq_getElem h1, List.getElem?_eq_getElem h2] at this
  exact this
abbrev MemoZ := List (Nat × Int)
def memoZ (es : MemoZ) : Cell := .mp false (es.map fun e => keyN e.1) (es.map fun e => i64 e.2)
def KnownZ (S : List Nat) (n : Nat) (es : MemoZ) : Prop := ∀ e ∈ es, ∀ c : List Nat, c.length = n → (∀ x ∈ c, x ≤ 24) → keyA c n = e.1 → e.2 = valC S c
theorem addZ_known {S : List Nat} {n : Nat} {es : MemoZ} (hk : KnownZ S n es) {c : List Nat} (hl : c.length = n) (hc : ∀ x ∈ c, x ≤ 24) : KnownZ S n (addG (keyA c n) (valC S c) es) := fun e he d hd hd2 hkd => by
  rcases addG_mem he with rfl | he
  · dsimp only at hkd ⊢
    have := keyA_inj hc hd2 n hkd.symm
    rw [list_eq (by omega) fun a ha => this a (by omega)]
  · exact hk e he d hd hd2 hkd
/-- The first letters of a list are taken away. -/
def lessL (M : List Nat) (c : List Nat) : List Nat := (List.range c.length).map fun a => c.getD a 0 - (if a ∈ M then 1 else 0)
theorem lessL_len (M : List Nat) (c : List Nat) : (lessL M c).length = c.length := by simp [lessL]
set_option maxHeartbeats 16000000 in
set_option maxRecDepth 100000 in
theorem lessL_nil (c : List Nat) : lessL [] c = c := by
  refine list_eq (lessL_len _ _) fun a ha => ?_
  rw [lessL_len] at ha
  unfold lessL
  rw [List.getD_eq_getElem?_getD, List.getElem?_map, List.getElem?_range ha]
  simp
theorem lessL_get (M : List Nat) (c : List Nat) {a : Nat} (h : a < c.length) : (lessL M c).getD a 0 = c.getD a 0 - (if a ∈ M then 1 else 0) := by
  unfold lessL
  rw [List.getD_eq_getElem?_getD, List.getElem?_map, List.getElem?_range h]
  rfl
theorem lessL_set {M : List Nat} {c : List Nat} {a : Nat} (h : a < c.length) (hn : a ∉ M) (hp : 0 < c.getD a 0) : (lessL M c).set a ((lessL M c).getD a 0 - 1) = lessL (M ++ [a]) c := by
  refine list_eq (by rw [List.length_set, lessL_len, lessL_len]) fun b hb => ?_
  rw [List.length_set, lessL_len] at hb
  rw [lessL_get _ _ hb, List.getD_eq_getElem?_getD]
  by_cases e : a = b
  · subst e
    rw [List.getElem?_set_self (by rw [lessL_len]; exact h), lessL_get _ _ h, if_neg hn, if_pos (by simp)]
    simp
  · rw [List.getElem?_set_ne e, ← List.getD_eq_getElem?_getD, lessL_get _ _ hb]
    have : (b ∈ M ++ [a]) ↔ b ∈ M := by
      rw [List.mem_append, List.mem_singleton]
      exact ⟨fun h => h.resolve_right fun h => e h.symm, .inl⟩
    by_cases hm : b ∈ M
    · rw [if_pos hm, if_pos (this.2 hm)]
    · rw [if_neg hm, if_neg fun h => hm (this.1 h)]
theorem lessL_all {s : Nat} {c : List Nat} (hs : s < 2 ^ 64) : lessL (mems s) c = lessC s c := by
  refine list_eq (by rw [lessL_len, lessC_len]) fun a ha => ?_
  rw [lessL_len] at ha
  rw [lessL_get _ _ ha, lessC_get _ _ ha]
  have : a ∈ mems s ↔ s.testBit a = true := by
    simp only [mems, List.mem_filter, List.mem_range]
    refine ⟨fun h => h.2, fun h => ⟨?_, h⟩⟩
    refine Nat.lt_of_not_le fun hn => ?_
    rw [Nat.testBit_lt_two_pow (Nat.lt_of_lt_of_le hs (Nat.pow_le_pow_right (by decide) hn))] at h
    cases h
  by_cases hm : a ∈ mems s
  · rw [if_pos hm, if_pos (this.1 hm)]
  · rw [if_neg hm, if_neg fun h => hm (this.2 h)]
end Go.Proofs.YtihdeagknggeiaaDoor
