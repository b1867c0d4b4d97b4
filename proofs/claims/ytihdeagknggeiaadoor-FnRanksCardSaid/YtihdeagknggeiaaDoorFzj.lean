import Derived.Test.YtihdeagknggeiaaDoorFzi
set_option autoImplicit false
set_option linter.unusedSimpArgs false
set_option linter.unusedVariables false
namespace Go.Proofs.YtihdeagknggeiaaDoor
open Go.Den
/-- Normal forms behind a set of letters that must not come first. -/
def NF (ms : List Nat) : Nat → List Nat → Prop
  | _, [] => True
  | mask, a :: w => a < ms.length ∧ mask.testBit a = false ∧ NF ms (aftN ms mask a) w
theorem aftN_testBit {ms : List Nat} (hl : ms.length ≤ 8) {mask c : Nat} (hm : mask < 2 ^ ms.length) (hc : c < ms.length) (b : Nat) : (aftN ms mask c).testBit b = ((mask.testBit b || decide (b < c)) && !dep ms c b) := by
  rw [aftN_bit hl hm hc]
  rfl
theorem NF_can {ms : List Nat} (hl : ms.length ≤ 8) : ∀ (w : List Nat) {mask b : Nat}, mask < 2 ^ ms.length → NF ms mask w → mask.testBit b = true → canF ms b w = false
  | [], _, _, _, _, _ => rfl
  | a :: w, mask, b, hm, ⟨h1, h2, h3⟩, hb => by
    have hne : (a == b) = false := by
      rw [beq_eq_false_iff_ne]
      rintro rfl
      rw [h2] at hb
      cases hb
    rw [canF, hne, Bool.false_or]
    cases hd : dep ms a b with
    | true => rfl
    | false =>
      rw [NF_can hl w (aftN_lt hl hm h1) h3 (by rw [aftN_testBit hl hm h1, hb, hd]; rfl)]
      rfl
theorem NF_least {ms : List Nat} (hl : ms.length ≤ 8) {w : List Nat} {mask a : Nat} (hm : mask < 2 ^ ms.length) (h : NF ms mask (a :: w)) : leastF ms (a :: w) = some a := by
  obtain ⟨h1, h2, h3⟩ := h
  unfold leastF
  rw [List.find?_range_eq_some]
  refine ⟨canF_head .., List.mem_range.2 h1, fun b hb => ?_⟩
  have hne : (a == b) = false := by
    rw [beq_eq_false_iff_ne]
    omega
  rw [canF, hne, Bool.false_or]
  cases hd : dep ms a b with
  | true => rfl
  | false =>
    rw [NF_can hl w (aftN_lt hl hm h1) h3 (by rw [aftN_testBit hl hm h1, decide_eq_true hb, hd]; simp)]
    rfl
theorem NF_wd {ms : List Nat} : ∀ {w : List Nat} {mask : Nat}, NF ms mask w → Wd ms w
  | [], _, _ => Wd.nil ms
  | _ :: _, _, h => Wd.cons h.1 (NF_wd h.2.2)
theorem NF_nfk {ms : List Nat} (hl : ms.length ≤ 8) : ∀ (w : List Nat) {mask : Nat}, mask < 2 ^ ms.length → NF ms mask w → nfk ms w.length w = w
  | [], _, _, _ => rfl
  | a :: w, mask, hm, h => by
    have h1 := NF_least hl hm h
    show nfk ms (w.length + 1) (a :: w) = _
    simp only [nfk, h1]
    rw [List.erase_cons_head, NF_nfk hl w (aftN_lt hl hm h.1) h.2.2]
theorem NF_nform {ms : List Nat} (hl : ms.length ≤ 8) {w : List Nat} (h : NF ms 0 w) : nform ms w = w := NF_nfk hl w (Nat.two_pow_pos _) h
theorem pkT_sum {f : Nat → Nat} : ∀ d c r, smN f (pkT f d c r).1 + (pkT f d c r).2 = smN f c + r
  | 0, _, _ => rfl
  | d + 1, c, r => by
    rw [pkT]
    split
    · rfl
    · have hs : smN f (c + 1) = smN f c + f c := rfl
      rw [pkT_sum d (c + 1) (r - f c), hs]
      omega
theorem atN_rank {ms : List Nat} (hl : ms.length ≤ 8) : ∀ (m : Nat) {mask r : Nat}, mask < 2 ^ ms.length → r < tlN ms m mask → tlN ms m mask ≤ 1000000000000000 → NF ms mask (atN ms m mask r) ∧ rtN ms mask (atN ms m mask r) = r
  | 0, mask, r, _, hr, _ => by
    rw [tlN_zero] at hr
    refine ⟨trivial, ?_⟩
    show 0 = r
    omega
  | m + 1, mask, r, hm, hr, hb => by
    obtain ⟨-, h1⟩ := pick_ok hl hm hr hb
    obtain ⟨h2, h3, h4, h5, h6⟩ := h1 _ rfl
    have ih := atN_rank hl m h6 h4 h5
    have hs := pkT_sum (f := trmN ms m mask) ms.length 0 r
    refine ⟨⟨h2, h3, ih.1⟩, ?_⟩
    rw [atN, rtN, atN_len, ih.2, hs]
    show 0 + r = r
    omega
/-- The least letter that is greater than a and may come first. -/
def opN (ms : List Nat) (mask a : Nat) : Option Nat := (List.range ms.length).find? fun c => decide (a < c) && !mask.testBit c
/-- The least letter that may come first. -/
def lsN (ms : List Nat) (mask : Nat) : Nat := ((List.range ms.length).find? fun c => !mask.testBit c).getD 0
/-- The first form. -/
def flN (ms : List Nat) : Nat → Nat → List Nat
  | 0, _ => []
  | m + 1, mask => lsN ms mask :: flN ms m (aftN ms mask (lsN ms mask))
theorem flN_len (ms : List Nat) : ∀ m mask, (flN ms m mask).length = m
  | 0, _ => rfl
  | m + 1, mask => by rw [flN, List.length_cons, flN_len ms m]
/-- The next form. -/
def nxN (ms : List Nat) : Nat → List Nat → Option (List Nat)
  | _, [] => none
  | mask, a :: w => match nxN ms (aftN ms mask a) w with
    | some v => some (a :: v)
    | none => match opN ms mask a with
      | none => none
      | some c => some (c :: flN ms w.length (aftN ms mask c))
theorem smN_zeros {f : Nat → Nat} {a : Nat} : ∀ d, (∀ c, a ≤ c → c < a + d → f c = 0) → smN f (a + d) = smN f a
  | 0, _ => rfl
  | d + 1, h => by
    have h1 : smN f (a + (d + 1)) = smN f (a + d) + f (a + d) := rfl
    rw [h1, smN_zeros d fun c h2 h3 => h c h2 (by omega), h (a + d) (by omega) (by omega), Nat.add_zero]
theorem smN_ge {f : Nat → Nat} {a : Nat} : ∀ {L : Nat}, a < L → smN f a + f a ≤ smN f L
  | 0, h => by omega
  | L + 1, h => by
    have h1 : smN f (L + 1) = smN f L + f L := rfl
    by_cases e : a = L
    · subst e
      omega
    · have := smN_ge (f := f) (a := a) (L := L) (by omega)
      omega
theorem opN_some {ms : List Nat} {mask a c : Nat} (h : opN ms mask a = some c) : a < c ∧ c < ms.length ∧ mask.testBit c = false ∧ ∀ b, a < b → b < c → mask.testBit b = true := by
  unfold opN at h
  rw [List.find?_range_eq_some] at h
  obtain ⟨h1, h2, h3⟩ := h
  rw [Bool.and_eq_true, decide_eq_true_eq, Bool.not_eq_true'] at h1
  refine ⟨h1.1, List.mem_range.1 h2, h1.2, fun b hb hbc => ?_⟩
  have h4 := h3 b hbc
  rw [decide_eq_true hb] at h4
  simpa using h4
theorem opN_none {ms : List Nat} {mask a : Nat} (h : opN ms mask a = none) : ∀ b, a < b → b < ms.length → mask.testBit b = true := fun b hb hbl => by
  unfold opN at h
  have h4 := List.find?_eq_none.1 h b (List.mem_range.2 hbl)
  rw [decide_eq_true hb] at h4
  simpa using h4
/-- A letter that is left open. -/
theorem lsN_ok {ms : List Nat} {mask e : Nat} (he : e < ms.length) (h : mask.testBit e = false) : lsN ms mask < ms.length ∧ mask.testBit (lsN ms mask) = false ∧ ∀ b < lsN ms mask, mask.testBit b = true := by
  unfold lsN
  cases h1 : (List.range ms.length).find? fun c => !mask.testBit c with
  | none =>
    have := List.find?_eq_none.1 h1 e (List.mem_range.2 he)
    rw [h] at this
    simp at this
  | some c =>
    rw [List.find?_range_eq_some] at h1
    obtain ⟨h2, h3, h4⟩ := h1
    rw [Option.getD_some]
    exact ⟨List.mem_range.1 h3, by simpa using h2, fun b hb => by simpa using h4 b hb⟩
theorem flN_ok {ms : List Nat} (hA : Alpha ms) (hl : ms.length ≤ 8) : ∀ (m : Nat) {mask e : Nat}, mask < 2 ^ ms.length → e < ms.length → mask.testBit e = false → NF ms mask (flN ms m mask) ∧ rtN ms mask (flN ms m mask) = 0
  | 0, _, _, _, _, _ => ⟨trivial, rfl⟩
  | m + 1, mask, e, hm, he, h => by
    obtain ⟨h1, h2, h3⟩ := lsN_ok he h
    have ih := flN_ok hA hl m (aftN_lt hl hm h1) h1 (by rw [aftN_testBit hl hm h1, hA.self _ h1]; simp)
    refine ⟨⟨h1, h2, ih.1⟩, ?_⟩
    have h4 := smN_zeros (f := trmN ms m mask) (a := 0) (lsN ms mask) fun c _ hc => by
      unfold trmN
      rw [if_pos (h3 c (by omega))]
    rw [Nat.zero_add] at h4
    rw [flN, rtN, flN_len, ih.2, h4]
    rfl
theorem rtN_lt {ms : List Nat} (hl : ms.length ≤ 8) : ∀ (w : List Nat) {mask : Nat}, mask < 2 ^ ms.length → NF ms mask w → tlN ms w.length mask ≤ 1000000000000000 → rtN ms mask w < tlN ms w.length mask
  | [], mask, _, _, _ => by
    show 0 < tlN ms 0 mask
    rw [tlN_zero]
    exact Nat.one_pos
  | a :: w, mask, hm, ⟨h1, h2, h3⟩, hb => by
    have hs := tlN_succ hl (m := w.length) hm
    rw [List.length_cons] at hb ⊢
    have h4 : tlN ms (w.length + 1) mask = smN (trmN ms w.length mask) ms.length := by omega
    have h5 : trmN ms w.length mask a = tlN ms w.length (aftN ms mask a) := by unfold trmN; rw [if_neg (by rw [h2]; simp)]
    have h6 := smN_ge (f := trmN ms w.length mask) h1
    have ih := rtN_lt hl w (aftN_lt hl hm h1) h3 (by omega)
    rw [rtN, h4]
    omega
theorem nxN_rank {ms : List Nat} (hA : Alpha ms) (hl : ms.length ≤ 8) : ∀ (w : List Nat) {mask : Nat}, mask < 2 ^ ms.length → NF ms mask w → tlN ms w.length mask ≤ 1000000000000000 →
    (nxN ms mask w = none → rtN ms mask w + 1 = tlN ms w.length mask) ∧ ∀ v, nxN ms mask w = some v → v.length = w.length ∧ NF ms mask v ∧ rtN ms mask v = rtN ms mask w + 1
  | [], mask, _, _, _ => ⟨fun _ => rfl, fun v h => (by cases h)⟩
  | a :: w, mask, hm, ⟨h1, h2, h3⟩, hb => by
    have hs := tlN_succ hl (m := w.length) hm
    rw [List.length_cons] at hb ⊢
    have h4 : tlN ms (w.length + 1) mask = smN (trmN ms w.length mask) ms.length := by omega
    have h5 : trmN ms w.length mask a = tlN ms w.length (aftN ms mask a) := by unfold trmN; rw [if_neg (by rw [h2]; simp)]
    have h6 := smN_ge (f := trmN ms w.length mask) h1
    have ih := nxN_rank hA hl w (aftN_lt hl hm h1) h3 (by omega)
    have h7 : smN (trmN ms w.length mask) (a + 1) = smN (trmN ms w.length mask) a + trmN ms w.length mask a := rfl
    have h8 : ∀ c, mask.testBit c = true → trmN ms w.length mask c = 0 := fun c hc => by unfold trmN; rw [if_pos hc]
    rw [nxN]
    cases hn : nxN ms (aftN ms mask a) w with
    | some v =>
      obtain ⟨i1, i2, i3⟩ := ih.2 v hn
      refine ⟨fun h => (by cases h), fun v' h => ?_⟩
      obtain rfl := Option.some.inj h
      refine ⟨by rw [List.length_cons, i1], ⟨h1, h2, i2⟩, ?_⟩
      rw [rtN, rtN, i1, i3]
      omega
    | none =>
      have i1 := ih.1 hn
      cases ho : opN ms mask a with
      | none =>
        refine ⟨fun _ => ?_, fun v' h => (by cases h)⟩
        have h9 := smN_zeros (f := trmN ms w.length mask) (a := a + 1) (ms.length - (a + 1)) fun c hc hc2 => h8 c (opN_none ho c (by omega) (by omega))
        rw [show a + 1 + (ms.length - (a + 1)) = ms.length by omega] at h9
        rw [rtN, h4, h9]
        omega
      | some c =>
        obtain ⟨o1, o2, o3, o4⟩ := opN_some ho
        refine ⟨fun h => (by cases h), fun v' h => ?_⟩
        obtain rfl := Option.some.inj h
        have hf := flN_ok hA hl w.length (aftN_lt hl hm o2) o2 (by rw [aftN_testBit hl hm o2, hA.self _ o2]; simp)
        have h9 := smN_zeros (f := trmN ms w.length mask) (a := a + 1) (c - (a + 1)) fun b hb1 hb2 => h8 b (o4 b (by omega) (by omega))
        rw [show a + 1 + (c - (a + 1)) = c by omega] at h9
        refine ⟨by rw [List.length_cons, flN_len], ⟨o2, o3, hf.1⟩, ?_⟩
        rw [rtN, rtN, flN_len, hf.2, h9]
        omega
end Go.Proofs.YtihdeagknggeiaaDoor
