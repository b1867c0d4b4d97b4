import Derived.Test.YtihdeagknggeiaaDoorFk
set_option autoImplicit false
set_option linter.unusedSimpArgs false
set_option linter.unusedVariables false
namespace Go.Proofs.YtihdeagknggeiaaDoor
open Go.Den
/-! ### Traces -/
/-- Do two letters depend on each other? -/
def dep (ms : List Nat) (a b : Nat) : Bool := (ms.getD a 0).testBit b
/-- An alphabet. -/
structure Alpha (ms : List Nat) : Prop where
  lt : ∀ m ∈ ms, m < 2 ^ ms.length
  sym : ∀ a b, dep ms a b = dep ms b a
  self : ∀ a, a < ms.length → dep ms a a = true
/-- A word of the alphabet. -/
def Wd (ms w : List Nat) : Prop := ∀ c ∈ w, c < ms.length
theorem dep_lt {ms : List Nat} (hA : Alpha ms) {a b : Nat} (h : dep ms a b = true) : a < ms.length ∧ b < ms.length := by
  have h1 : ∀ {a b : Nat}, dep ms a b = true → a < ms.length := fun {a b} h => by
    refine Nat.lt_of_not_le fun hn => ?_
    unfold dep at h
    rw [List.getD_eq_getElem?_getD, List.getElem?_eq_none hn, Option.getD_none, Nat.zero_testBit] at h
    cases h
  exact ⟨h1 h, h1 (by rw [← hA.sym]; exact h)⟩
theorem Wd.nil (ms : List Nat) : Wd ms [] := fun c h => by cases h
theorem Wd.cons {ms w : List Nat} {a : Nat} (ha : a < ms.length) (h : Wd ms w) : Wd ms (a :: w) := fun c hc => by
  rcases List.mem_cons.1 hc with rfl | hc
  · exact ha
  · exact h c hc
theorem Wd.tail {ms w : List Nat} {a : Nat} (h : Wd ms (a :: w)) : Wd ms w := fun c hc => h c (List.mem_cons_of_mem _ hc)
theorem Wd.head {ms w : List Nat} {a : Nat} (h : Wd ms (a :: w)) : a < ms.length := h a (by simp)
theorem Wd.append {ms u v : List Nat} (hu : Wd ms u) (hv : Wd ms v) : Wd ms (u ++ v) := fun c hc => (List.mem_append.1 hc).elim (hu c) (hv c)
theorem Wd.left {ms u v : List Nat} (h : Wd ms (u ++ v)) : Wd ms u := fun c hc => h c (List.mem_append.2 (.inl hc))
theorem Wd.right {ms u v : List Nat} (h : Wd ms (u ++ v)) : Wd ms v := fun c hc => h c (List.mem_append.2 (.inr hc))
theorem Wd.erase {ms w : List Nat} (a : Nat) (h : Wd ms w) : Wd ms (w.erase a) := fun c hc => h c (List.mem_of_mem_erase hc)
/-- Can the letter a be taken away from the front of a word? -/
def canF (ms : List Nat) (a : Nat) : List Nat → Bool
  | [] => false
  | b :: w => b == a || (!dep ms b a && canF ms a w)
theorem canF_snoc (ms : List Nat) (a c : Nat) : ∀ w, canF ms a (w ++ [c]) = (canF ms a w || (c == a && !w.any fun b => dep ms b a))
  | [] => by simp [canF]
  | b :: w => by
    simp only [List.cons_append, canF, canF_snoc ms a c w, List.any_cons]
    cases b == a <;> cases dep ms b a <;> simp
theorem canF_mem {ms : List Nat} {a : Nat} : ∀ {w : List Nat}, canF ms a w = true → a ∈ w
  | [], h => by simp [canF] at h
  | b :: w, h => by
    simp only [canF, Bool.or_eq_true, Bool.and_eq_true, beq_iff_eq] at h
    rcases h with rfl | ⟨-, h⟩
    · simp
    · exact List.mem_cons_of_mem _ (canF_mem h)
/-- The letters a and b of a word. -/
abbrev pj (a b : Nat) (w : List Nat) : List Nat := w.filter fun c => c == a || c == b
theorem pj_comm (a b : Nat) (w : List Nat) : pj a b w = pj b a w := by
  unfold pj
  congr 1
  funext c
  rw [Bool.or_comm]
/-- The words of the same trace. -/
def Eqv (ms u v : List Nat) : Prop := ∀ a b, dep ms a b = true → pj a b u = pj a b v
theorem Eqv.refl (ms u : List Nat) : Eqv ms u u := fun _ _ _ => rfl
theorem Eqv.symm {ms u v : List Nat} (h : Eqv ms u v) : Eqv ms v u := fun a b hd => (h a b hd).symm
theorem Eqv.trans {ms u v w : List Nat} (h : Eqv ms u v) (k : Eqv ms v w) : Eqv ms u w := fun a b hd => (h a b hd).trans (k a b hd)
theorem Eqv.append {ms u u' v v' : List Nat} (h : Eqv ms u u') (k : Eqv ms v v') : Eqv ms (u ++ v) (u' ++ v') := fun a b hd => by
  simp only [pj, List.filter_append]
  have h1 := h a b hd
  have h2 := k a b hd
  simp only [pj] at h1 h2
  rw [h1, h2]
theorem canF_pj {ms : List Nat} (hA : Alpha ms) {a : Nat} (ha : a < ms.length) : ∀ w, canF ms a w = true ↔ ∀ b, dep ms b a = true → (pj a b w).head? = some a
  | [] => by
    simp only [canF, Bool.false_eq_true, false_iff]
    intro h
    have := h a (hA.self a ha)
    simp at this
  | c :: w => by
    simp only [canF, Bool.or_eq_true, beq_iff_eq, Bool.and_eq_true, Bool.not_eq_true']
    by_cases hc : c = a
    · subst hc
      simp [pj]
    · simp only [hc, false_or]
      cases hd : dep ms c a with
      | true =>
        simp only [Bool.true_eq_false, false_and, false_iff]
        intro h
        have := h c hd
        simp [pj, hc] at this
      | false =>
        simp only [true_and]
        rw [canF_pj hA ha w]
        refine forall_congr' fun b => imp_congr_right fun hb => ?_
        have hbc : c ≠ b := fun e => by rw [e, hb] at hd; cases hd
        rw [show pj a b (c :: w) = pj a b w by simp [pj, hc, hbc]]
/-- What is taken away from the front. -/
theorem pj_front {ms : List Nat} {a b : Nat} (hd : dep ms b a = true) : ∀ {w : List Nat}, canF ms a w = true → pj a b w = a :: pj a b (w.erase a)
  | [], h => by simp [canF] at h
  | c :: w, h => by
    simp only [canF, Bool.or_eq_true, beq_iff_eq, Bool.and_eq_true, Bool.not_eq_true'] at h
    by_cases hc : c = a
    · subst hc
      simp [pj]
    · obtain ⟨h1, h2⟩ := h.resolve_left hc
      have hbc : c ≠ b := fun e => by rw [e, hd] at h1; cases h1
      rw [List.erase_cons_tail (by simpa using hc)]
      rw [show pj a b (c :: w) = pj a b w by simp [pj, hc, hbc], show pj a b (c :: w.erase a) = pj a b (w.erase a) by simp [pj, hc, hbc]]
      exact pj_front hd h2
theorem pj_other {a b c : Nat} (hb : b ≠ a) (hc : c ≠ a) (w : List Nat) : pj b c (w.erase a) = pj b c w := by
  induction w with
  | nil => rfl
  | cons d w ih =>
    by_cases hd : d = a
    · subst hd
      rw [List.erase_cons_head]
      simp [pj, hb.symm, hc.symm]
    · rw [List.erase_cons_tail (by simpa using hd)]
      simp only [pj, List.filter_cons] at ih ⊢
      rw [ih]
/-- A letter in front. -/
theorem Eqv.cons_erase {ms w : List Nat} (hA : Alpha ms) {a : Nat} (h : canF ms a w = true) : Eqv ms w (a :: w.erase a) := fun b c hd => by
  by_cases hb : b = a
  · subst hb
    rw [pj_front (b := c) (by rw [hA.sym]; exact hd) h]
    simp [pj]
  · by_cases hc : c = a
    · subst hc
      rw [pj_comm b c w, pj_front (b := b) hd h, pj_comm b c]
      simp [pj]
    · rw [show pj b c (a :: w.erase a) = pj b c (w.erase a) by simp [pj, Ne.symm hb, Ne.symm hc], pj_other hb hc]
theorem Eqv.front {ms u v : List Nat} (hA : Alpha ms) (h : Eqv ms u v) {a : Nat} (ha : a < ms.length) : canF ms a u = canF ms a v := by
  rw [Bool.eq_iff_iff, canF_pj hA ha, canF_pj hA ha]
  refine forall_congr' fun b => imp_congr_right fun hb => ?_
  rw [h a b (by rw [hA.sym]; exact hb)]
theorem Eqv.tail {ms u v : List Nat} {a : Nat} (h : Eqv ms (a :: u) (a :: v)) : Eqv ms u v := fun b c hd => by
  have := h b c hd
  simp only [pj, List.filter_cons] at this
  split at this
  · exact (List.cons.inj this).2
  · exact this
theorem Eqv.erase {ms u v : List Nat} (hA : Alpha ms) (h : Eqv ms u v) {a : Nat} (hu : canF ms a u = true) (hv : canF ms a v = true) : Eqv ms (u.erase a) (v.erase a) :=
  Eqv.tail (((Eqv.cons_erase hA hu).symm.trans h).trans (Eqv.cons_erase hA hv))
theorem Eqv.perm {ms u v : List Nat} (hA : Alpha ms) (hu : Wd ms u) (hv : Wd ms v) (h : Eqv ms u v) : u.Perm v := by
  rw [List.perm_iff_count]
  intro a
  by_cases ha : a < ms.length
  · have := congrArg List.length (h a a (hA.self a ha))
    simp only [pj, Bool.or_self, ← List.countP_eq_length_filter] at this
    exact this
  · rw [List.count_eq_zero.2 fun hm => ha (hu a hm), List.count_eq_zero.2 fun hm => ha (hv a hm)]
theorem Eqv.length {ms u v : List Nat} (hA : Alpha ms) (hu : Wd ms u) (hv : Wd ms v) (h : Eqv ms u v) : u.length = v.length := (h.perm hA hu hv).length_eq
/-- The first letter that can be taken away. -/
def leastF (ms w : List Nat) : Option Nat := (List.range ms.length).find? fun a => canF ms a w
theorem leastF_some {ms w : List Nat} {a : Nat} (h : leastF ms w = some a) : a < ms.length ∧ canF ms a w = true := by
  unfold leastF at h
  have h1 := List.find?_some h
  have h2 := List.mem_of_find?_eq_some h
  exact ⟨by simpa using h2, h1⟩
theorem canF_head (ms : List Nat) (a : Nat) (w : List Nat) : canF ms a (a :: w) = true := by simp [canF]
theorem leastF_cons {ms w : List Nat} {c : Nat} (hw : Wd ms (c :: w)) : ∃ a, leastF ms (c :: w) = some a := by
  unfold leastF
  cases h : (List.range ms.length).find? fun a => canF ms a (c :: w) with
  | some a => exact ⟨a, rfl⟩
  | none =>
    have := List.find?_eq_none.1 h c (by simpa using hw.head)
    rw [canF_head] at this
    simp at this
/-- The normal form of at most k letters. -/
def nfk (ms : List Nat) : Nat → List Nat → List Nat
  | 0, _ => []
  | k + 1, w => match leastF ms w with
    | none => []
    | some a => a :: nfk ms k (w.erase a)
def nform (ms w : List Nat) : List Nat := nfk ms w.length w
theorem erase_length {w : List Nat} {a : Nat} (h : a ∈ w) : (w.erase a).length = w.length - 1 := List.length_erase_of_mem h
theorem nfk_eqv {ms : List Nat} (hA : Alpha ms) : ∀ (k : Nat) (w : List Nat), Wd ms w → w.length = k → Eqv ms (nfk ms k w) w ∧ Wd ms (nfk ms k w)
  | 0, w, _, hl => by
    obtain rfl := List.length_eq_zero_iff.1 hl
    exact ⟨.refl _ _, .nil _⟩
  | k + 1, [], _, hl => by simp at hl
  | k + 1, c :: w, hw, hl => by
    obtain ⟨a, ha⟩ := leastF_cons hw
    obtain ⟨h1, h2⟩ := leastF_some ha
    obtain ⟨h3, h4⟩ := nfk_eqv hA k ((c :: w).erase a) (hw.erase a) (by rw [erase_length (canF_mem h2), hl]; rfl)
    simp only [nfk, ha]
    exact ⟨((Eqv.refl ms [a]).append h3).trans (Eqv.cons_erase hA h2).symm, h4.cons h1⟩
theorem nform_eqv {ms : List Nat} (hA : Alpha ms) {w : List Nat} (hw : Wd ms w) : Eqv ms (nform ms w) w := (nfk_eqv hA _ w hw rfl).1
theorem nform_wd {ms : List Nat} (hA : Alpha ms) {w : List Nat} (hw : Wd ms w) : Wd ms (nform ms w) := (nfk_eqv hA _ w hw rfl).2
theorem nform_length {ms : List Nat} (hA : Alpha ms) {w : List Nat} (hw : Wd ms w) : (nform ms w).length = w.length := (nform_eqv hA hw).length hA (nform_wd hA hw) hw
theorem Eqv.least {ms u v : List Nat} (hA : Alpha ms) (h : Eqv ms u v) : leastF ms u = leastF ms v := by
  have : ∀ l : List Nat, (∀ a ∈ l, a < ms.length) → (l.find? fun a => canF ms a u) = l.find? fun a => canF ms a v := fun l => by
    induction l with
    | nil => intro _; rfl
    | cons a l ih =>
      intro hl
      simp only [List.find?_cons]
      rw [h.front hA (hl a (by simp)), ih fun b hb => hl b (by simp [hb])]
  exact this _ fun a ha => by simpa using ha
theorem nfk_congr {ms : List Nat} (hA : Alpha ms) : ∀ (k : Nat) {u v : List Nat}, Eqv ms u v → nfk ms k u = nfk ms k v
  | 0, _, _, _ => rfl
  | k + 1, u, v, h => by
    simp only [nfk]
    rw [h.least hA]
    cases hf : leastF ms v with
    | none => rfl
    | some a =>
      obtain ⟨h1, h2⟩ := leastF_some hf
      have h3 := h2
      rw [← h.front hA h1] at h3
      simp only
      rw [nfk_congr hA k (h.erase hA h3 h2)]
theorem nform_congr {ms u v : List Nat} (hA : Alpha ms) (hu : Wd ms u) (hv : Wd ms v) (h : Eqv ms u v) : nform ms u = nform ms v := by
  unfold nform
  rw [h.length hA hu hv, nfk_congr hA _ h]
theorem nform_iff {ms u v : List Nat} (hA : Alpha ms) (hu : Wd ms u) (hv : Wd ms v) : nform ms u = nform ms v ↔ Eqv ms u v :=
  ⟨fun h => ((nform_eqv hA hu).symm.trans (by rw [h]; exact .refl _ _)).trans (nform_eqv hA hv), nform_congr hA hu hv⟩
/-- What is left of v if the letters of u are taken away from its front. -/
def cut (ms : List Nat) : List Nat → List Nat → Option (List Nat)
  | [], v => some v
  | a :: u, v => if canF ms a v then cut ms u (v.erase a) else none
theorem cut_wd {ms : List Nat} : ∀ {u v r : List Nat}, Wd ms v → cut ms u v = some r → Wd ms r
  | [], v, r, hv, h => by simp only [cut, Option.some.injEq] at h; subst h; exact hv
  | a :: u, v, r, hv, h => by
    simp only [cut] at h
    split at h
    · exact cut_wd (hv.erase a) h
    · cases h
theorem cut_eqv {ms : List Nat} (hA : Alpha ms) : ∀ {u v r : List Nat}, cut ms u v = some r → Eqv ms v (u ++ r)
  | [], v, r, h => by simp only [cut, Option.some.injEq] at h; subst h; exact .refl _ _
  | a :: u, v, r, h => by
    simp only [cut] at h
    split at h
    · rename_i hc
      exact (Eqv.cons_erase hA hc).trans ((Eqv.refl ms [a]).append (cut_eqv hA h))
    · cases h
theorem cut_of {ms : List Nat} (hA : Alpha ms) : ∀ {u v s : List Nat}, Wd ms u → Eqv ms v (u ++ s) → ∃ r, cut ms u v = some r ∧ Eqv ms r s
  | [], v, s, _, h => ⟨v, rfl, h⟩
  | a :: u, v, s, hu, h => by
    have hc : canF ms a v = true := by rw [h.front hA hu.head]; exact canF_head ..
    simp only [cut, hc, if_true]
    exact cut_of hA hu.tail (Eqv.tail ((Eqv.cons_erase hA hc).symm.trans h))
set_option maxHeartbeats 16000000 in
set_option maxRecDepth 100000 in
theorem eqv_nil {ms u : List Nat} (hA : Alpha ms) (hu : Wd ms u) (h : Eqv ms u []) : u = [] := List.length_eq_zero_iff.1 (h.length hA hu (.nil ms))
set_option maxHeartbeats 16000000 in
set_option maxRecDepth 100000 in
theorem cut_nil {ms u v : List Nat} (hA : Alpha ms) (hu : Wd ms u) (hv : Wd ms v) : cut ms u v = some [] ↔ nform ms u = nform ms v := by
  rw [nform_iff hA hu hv]
  constructor
  · intro h
    have := cut_eqv hA h
    rw [List.append_nil] at this
    exact this.symm
  · intro h
    obtain ⟨r, h1, h2⟩ := cut_of hA (v := v) (s := []) hu (by rw [List.append_nil]; exact h.symm)
    rw [h1, eqv_nil hA (cut_wd hv h1) h2]
end Go.Proofs.YtihdeagknggeiaaDoor
