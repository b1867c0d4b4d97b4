import Derived.Test.YtihdeagknggeiaaDoorFza
set_option autoImplicit false
set_option linter.unusedSimpArgs false
set_option linter.unusedVariables false
namespace Go.Proofs.YtihdeagknggeiaaDoor
open Go.Den
def popF : Nat → Nat → Nat
  | 0, _ => 0
  | f + 1, m => m % 2 + popF f (m / 2)
theorem popF_eq : ∀ m < 256, popF 8 m = popR 8 m := by decide +kernel
theorem popF_le : ∀ f m, popF f m ≤ f
  | 0, _ => Nat.le_refl _
  | f + 1, m => by
    have := popF_le f (m / 2)
    rw [popF]
    omega
set_option maxHeartbeats 16000000 in
set_option maxRecDepth 100000 in
theorem l01Bits_ret (m : Nat) (h : m < 256) : Ret Tryd.prog G0 53 [⟨.ro, .one (i64 m)⟩] ⟨.one (i64 ((popR 8 m : Nat) : Int)), []⟩ := by
  have he := popF_eq m h
  (refine ret_of_den (E := en 13 [] (fun _ => [(0, 0), (3, 0)]) (fun _ => [])) tt_ok mixed Tryd.func53 rfl rfl rfl rfl ?_; refine ⟨by simp, ?_⟩)
  repeat' (first | ((first | refine opt_some (getC_rows rfl rfl (by omega)) ?_ | refine opt_some (by dsimp only; exact getC_lent rfl rfl (by omega)) ?_ | refine opt_some rfl ?_ | refine ⟨_, (by simp only [nf, nl, nm, en, ints, setC_setC, Nat.reduceAdd, Nat.reduceMul]; exact rfl), ?_⟩ | refine ⟨_, pickT rfl, ?_⟩ | refine ⟨_, rfl, ?_⟩ | refine iteP_true rfl ?_ | refine iteP_false rfl ?_ | refine iteP_true ‹_› ?_ | refine iteP_false ‹_› ?_ | refine andK ?_ | refine andA ?_ | refine andT ?_); conv => whnf) | (refine iteP_intro (fun hb => ?_) (fun hb => ?_) <;> (conv => whnf)))
  refine ⟨fun k vs => ∃ (f a q : Nat), f ≤ 8 ∧ q < 2 ^ f ∧ a + popF f q = popR 8 m ∧ a + f ≤ 8 ∧ vs = [.one (i64 q), .one (i64 a)] ∧ k = q, rfl, ⟨_, 8, 0, m, by omega, h, by rw [Nat.zero_add]; exact he, by omega, rfl, rfl⟩, ?_⟩
  rintro k vs ⟨f, a, q, hf, hq, hp, hab, rfl, rfl⟩
  have hq8 : 2 ^ f ≤ 2 ^ 8 := Nat.pow_le_pow_right (by decide) hf
  repeat (first | ((first | refine opt_some (getC_rows rfl rfl (by omega)) ?_ | refine opt_some (by dsimp only; exact getC_lent rfl rfl (by omega)) ?_ | refine opt_some rfl ?_ | refine ⟨_, (by simp only [nf, nl, nm, en, ints, setC_setC, Nat.reduceAdd, Nat.reduceMul]; exact rfl), ?_⟩ | refine ⟨_, pickT rfl, ?_⟩ | refine ⟨_, rfl, ?_⟩ | refine iteP_true rfl ?_ | refine iteP_false rfl ?_ | refine iteP_true ‹_› ?_ | refine iteP_false ‹_› ?_ | refine andK ?_ | refine andA ?_ | refine andT ?_); conv => whnf))
  refine iteP_intro (fun hb => ?_) (fun hb => ?_) <;> (conv => whnf)
  · have hk0 : 0 < k := by have := leT hb; omega
    cases f with
    | zero => rw [Nat.pow_zero] at hq; omega
    | succ f =>
      rw [popF] at hp
      rw [Nat.pow_succ] at hq
      have e1 : ((k : Nat) : Int).tmod 2 = ((k % 2 : Nat) : Int) := by
        rw [Int.tmod_eq_emod_of_nonneg (by omega)]
        omega
      have e2 : IntKind.i64.wrap (((k : Nat) : Int).tdiv 2) = ((k / 2 : Nat) : Int) := by
        rw [Int.tdiv_eq_ediv_of_nonneg (by omega), wrap_i64 (by omega) (by omega)]
        omega
      have e3 : IntKind.i64.wrap ((a : Int) + ((k % 2 : Nat) : Int)) = ((a + k % 2 : Nat) : Int) := by rw [wrap_i64 (by omega) (by omega)]; omega
      repeat (first | ((first | refine opt_some (getC_rows rfl rfl (by omega)) ?_ | refine opt_some (by dsimp only; exact getC_lent rfl rfl (by omega)) ?_ | refine opt_some rfl ?_ | refine ⟨_, (by simp only [nf, nl, nm, en, ints, setC_setC, Nat.reduceAdd, Nat.reduceMul, e1, e2, e3]; exact rfl), ?_⟩ | refine ⟨_, pickT rfl, ?_⟩ | refine ⟨_, rfl, ?_⟩ | refine iteP_true rfl ?_ | refine iteP_false rfl ?_ | refine iteP_true ‹_› ?_ | refine iteP_false ‹_› ?_ | refine andK ?_ | refine andA ?_ | refine andT ?_); conv => whnf))
      refine ⟨_, ?_, f, a + k % 2, k / 2, by omega, by omega, by omega, by omega, rfl, rfl⟩
      omega
  · have hk0 : k = 0 := by have := leF hb; omega
    subst hk0
    have hz : ∀ f, popF f 0 = 0 := fun f => by
      induction f with
      | zero => rfl
      | succ f ih => rw [popF, Nat.zero_div, ih]
    rw [hz, Nat.add_zero] at hp
    subst hp
    repeat' (first | ((first | refine opt_some (getC_rows rfl rfl (by omega)) ?_ | refine opt_some (by dsimp only; exact getC_lent rfl rfl (by omega)) ?_ | refine opt_some rfl ?_ | refine ⟨_, (by simp only [nf, nl, nm, en, ints, setC_setC, Nat.reduceAdd, Nat.reduceMul]; exact rfl), ?_⟩ | refine ⟨_, pickT rfl, ?_⟩ | refine ⟨_, rfl, ?_⟩ | refine iteP_true rfl ?_ | refine iteP_false rfl ?_ | refine iteP_true ‹_› ?_ | refine iteP_false ‹_› ?_ | refine andK ?_ | refine andA ?_ | refine andT ?_); conv => whnf) | (refine iteP_intro (fun hb => ?_) (fun hb => ?_) <;> (conv => whnf)))
    rfl
theorem stp_and {ms : List Nat} (hA : Alpha ms) {m : Nat} (hm : m < 2 ^ ms.length) : (∀ b < ms.length, m.testBit b = true → ms.getD b 0 &&& m = 2 ^ b) ↔ stpR (dep ms) ms.length m = true := by
  have hlt : ∀ b, m.testBit b = true → b < ms.length := fun b hb => by
    refine Nat.lt_of_not_le fun hn => ?_
    rw [Nat.testBit_lt_two_pow (Nat.lt_of_lt_of_le hm (Nat.pow_le_pow_right (by decide) hn))] at hb
    cases hb
  rw [stpR_iff]
  constructor
  · intro h a ha hma b hb hmb
    have h1 := congrArg (fun x => x.testBit b) (h a ha hma)
    simp only [Nat.testBit_and, Nat.testBit_two_pow, hmb, Bool.and_true] at h1
    show (ms.getD a 0).testBit b = false
    rw [h1]
    exact decide_eq_false (by omega)
  · intro h b hb hmb
    refine Nat.eq_of_testBit_eq fun j => ?_
    rw [Nat.testBit_and, Nat.testBit_two_pow]
    show (dep ms b j && m.testBit j) = _
    by_cases e : b = j
    · subst e
      rw [hA.self b hb, hmb, decide_eq_true rfl]
      rfl
    · rw [decide_eq_false e]
      cases hj : m.testBit j with
      | false => rw [Bool.and_false]
      | true =>
        rw [Bool.and_true]
        rcases Nat.lt_or_ge j b with hl | hl
        · exact h b hb hmb j hl hj
        · rw [hA.sym]
          exact h j (hlt j hj) hj b (by omega) hmb
set_option maxHeartbeats 16000000 in
set_option maxRecDepth 100000 in
theorem l02Step_ret (ms : List Nat) (hA : Alpha ms) (hl : ms.length ≤ 8) (m : Nat) (hm : m < 2 ^ ms.length) : Ret Tryd.prog G0 98 [⟨.ro, .agg [i64 ms.length, ints (natI ms)]⟩, ⟨.ro, .one (i64 m)⟩] ⟨.one (.c (.bool (stpR (dep ms) ms.length m))), []⟩ := by
  have hp8 : 2 ^ ms.length ≤ 2 ^ 8 := Nat.pow_le_pow_right (by decide) hl
  have hml := natI_length ms
  have hsa := stp_and hA hm
  have hB0 : ∃ B, stpR (dep ms) ms.length m = B := ⟨_, rfl⟩
  obtain ⟨B, hB⟩ := hB0
  rw [hB] at hsa
  rw [hB]
  (refine ret_of_den (E := en 27 [] (fun _ => [(1, 0), (2, 0), (5, 0)]) (fun _ => [])) tt_ok mixed Tryd.func98 rfl rfl rfl rfl ?_; refine ⟨by simp, ?_⟩)
  repeat' (first | ((first | refine opt_some (getC_rows rfl rfl (by omega)) ?_ | refine opt_some (by dsimp only; exact getC_lent rfl rfl (by omega)) ?_ | refine opt_some rfl ?_ | refine ⟨_, (by simp only [nf, nl, nm, en, ints, setC_setC, Nat.reduceAdd, Nat.reduceMul]; exact rfl), ?_⟩ | refine ⟨_, pickT rfl, ?_⟩ | refine ⟨_, rfl, ?_⟩ | refine iteP_true rfl ?_ | refine iteP_false rfl ?_ | refine iteP_true ‹_› ?_ | refine iteP_false ‹_› ?_ | refine andK ?_ | refine andA ?_ | refine andT ?_); conv => whnf) | (refine iteP_intro (fun hb => ?_) (fun hb => ?_) <;> (conv => whnf)))
  refine ⟨fun k vs => ∃ a : Nat, a ≤ ms.length ∧ (∀ b < a, m.testBit b = true → ms.getD b 0 &&& m = 2 ^ b) ∧ vs = [.one (i64 m), .one (.ptr [i64 ms.length, .shd (ints (natI ms))]), .one (i64 a)] ∧ k = ms.length - a, rfl, ⟨_, 0, by omega, fun b hb => by omega, rfl, rfl⟩, ?_⟩
  rintro k vs ⟨a, ha, hpa, rfl, rfl⟩
  repeat (first | ((first | refine opt_some (getC_rows rfl rfl (by omega)) ?_ | refine opt_some (by dsimp only; exact getC_lent rfl rfl (by omega)) ?_ | refine opt_some rfl ?_ | refine ⟨_, (by simp only [nf, nl, nm, en, ints, setC_setC, Nat.reduceAdd, Nat.reduceMul]; exact rfl), ?_⟩ | refine ⟨_, pickT rfl, ?_⟩ | refine ⟨_, rfl, ?_⟩ | refine iteP_true rfl ?_ | refine iteP_false rfl ?_ | refine iteP_true ‹_› ?_ | refine iteP_false ‹_› ?_ | refine andK ?_ | refine andA ?_ | refine andT ?_); conv => whnf))
  refine iteP_intro (fun hb => ?_) (fun hb => ?_) <;> (conv => whnf)
  · have ha' : a < ms.length := by have := leT hb; omega
    have hBi := l01Bit_ret m a (by omega) (by omega)
    have hO := l01One_ret a (by omega)
    have hga : (natI ms)[a]'(by omega) = ((ms.getD a 0 : Nat) : Int) := natI_getD ha'
    have h63 := getD_lt hA.lt ha' (by omega)
    have e1 := and_i64 (a := ms.getD a 0) (b := m) h63
    by_cases hma : m.testBit a = true
    rotate_left
    · have hma : m.testBit a = false := by simpa using hma
      rw [hma] at hBi
      repeat (first | ((first | refine opt_some (getC_rows rfl rfl (by omega)) ?_ | refine opt_some (by dsimp only; exact getC_lent rfl rfl (by omega)) ?_ | refine opt_some rfl ?_ | refine ⟨_, (by simp only [nf, nl, nm, en, ints, setC_setC, Nat.reduceAdd, Nat.reduceMul]; exact rfl), ?_⟩ | refine ⟨_, pickT rfl, ?_⟩ | refine ⟨_, rfl, ?_⟩ | refine iteP_true rfl ?_ | refine iteP_false rfl ?_ | refine iteP_true ‹_› ?_ | refine iteP_false ‹_› ?_ | refine andK ?_ | refine andA ?_ | refine andT ?_); conv => whnf))
      (refine ⟨_, hBi, ?_⟩; conv => whnf)
      repeat (first | ((first | refine opt_some (getC_rows rfl rfl (by omega)) ?_ | refine opt_some (by dsimp only; exact getC_lent rfl rfl (by omega)) ?_ | refine opt_some rfl ?_ | refine ⟨_, (by simp only [nf, nl, nm, en, ints, setC_setC, Nat.reduceAdd, Nat.reduceMul]; exact rfl), ?_⟩ | refine ⟨_, pickT rfl, ?_⟩ | refine ⟨_, rfl, ?_⟩ | refine iteP_true rfl ?_ | refine iteP_false rfl ?_ | refine iteP_true ‹_› ?_ | refine iteP_false ‹_› ?_ | refine andK ?_ | refine andA ?_ | refine andT ?_); conv => whnf))
      refine ⟨_, ?_, a + 1, ha', fun b hb hmb => ?_, ?_, rfl⟩
      · omega
      · by_cases e : b = a
        · subst e; rw [hma] at hmb; cases hmb
        · exact hpa b (by omega) hmb
      · rw [wrap_succ (by omega)]
        rfl
    rw [hma] at hBi
    by_cases heq : ms.getD a 0 &&& m = 2 ^ a
    · have hne : (((ms.getD a 0 &&& m : Nat) : Int) != ((2 ^ a : Nat) : Int)) = false := by rw [heq]; simp
      repeat (first | ((first | refine opt_some (getC_rows rfl rfl (by omega)) ?_ | refine opt_some (by dsimp only; exact getC_lent rfl rfl (by omega)) ?_ | refine opt_some rfl ?_ | refine ⟨_, (by simp only [nf, nl, nm, en, ints, setC_setC, Nat.reduceAdd, Nat.reduceMul]; exact rfl), ?_⟩ | refine ⟨_, pickT rfl, ?_⟩ | refine ⟨_, rfl, ?_⟩ | refine iteP_true rfl ?_ | refine iteP_false rfl ?_ | refine iteP_true ‹_› ?_ | refine iteP_false ‹_› ?_ | refine andK ?_ | refine andA ?_ | refine andT ?_); conv => whnf))
      (refine ⟨_, hBi, ?_⟩; conv => whnf)
      repeat (first | ((first | refine opt_some (getC_rows rfl rfl (by omega)) ?_ | refine opt_some (by dsimp only; exact getC_lent rfl rfl (by omega)) ?_ | refine opt_some rfl ?_ | refine ⟨_, (by simp only [nf, nl, nm, en, ints, setC_setC, Nat.reduceAdd, Nat.reduceMul, hga, e1]; exact rfl), ?_⟩ | refine ⟨_, pickT rfl, ?_⟩ | refine ⟨_, rfl, ?_⟩ | refine iteP_true rfl ?_ | refine iteP_false rfl ?_ | refine iteP_true ‹_› ?_ | refine iteP_false ‹_› ?_ | refine andK ?_ | refine andA ?_ | refine andT ?_); conv => whnf))
      (refine ⟨_, hO, ?_⟩; conv => whnf)
      repeat (first | ((first | refine opt_some (getC_rows rfl rfl (by omega)) ?_ | refine opt_some (by dsimp only; exact getC_lent rfl rfl (by omega)) ?_ | refine opt_some rfl ?_ | refine ⟨_, (by simp only [nf, nl, nm, en, ints, setC_setC, Nat.reduceAdd, Nat.reduceMul, hga, e1, hne]; exact rfl), ?_⟩ | refine ⟨_, pickT rfl, ?_⟩ | refine ⟨_, rfl, ?_⟩ | refine iteP_true rfl ?_ | refine iteP_false rfl ?_ | refine iteP_true ‹_› ?_ | refine iteP_false ‹_› ?_ | refine andK ?_ | refine andA ?_ | refine andT ?_); conv => whnf))
      refine ⟨_, ?_, a + 1, ha', fun b hb hmb => ?_, ?_, rfl⟩
      · omega
      · by_cases e : b = a
        · subst e; exact heq
        · exact hpa b (by omega) hmb
      · rw [wrap_succ (by omega)]
        rfl
    · have hne : (((ms.getD a 0 &&& m : Nat) : Int) != ((2 ^ a : Nat) : Int)) = true := by
        rw [bne_iff_ne]
        omega
      have hBf : B = false := by
        cases B with
        | false => rfl
        | true => exact absurd (hsa.2 rfl a ha' hma) heq
      subst hBf
      repeat (first | ((first | refine opt_some (getC_rows rfl rfl (by omega)) ?_ | refine opt_some (by dsimp only; exact getC_lent rfl rfl (by omega)) ?_ | refine opt_some rfl ?_ | refine ⟨_, (by simp only [nf, nl, nm, en, ints, setC_setC, Nat.reduceAdd, Nat.reduceMul]; exact rfl), ?_⟩ | refine ⟨_, pickT rfl, ?_⟩ | refine ⟨_, rfl, ?_⟩ | refine iteP_true rfl ?_ | refine iteP_false rfl ?_ | refine iteP_true ‹_› ?_ | refine iteP_false ‹_› ?_ | refine andK ?_ | refine andA ?_ | refine andT ?_); conv => whnf))
      (refine ⟨_, hBi, ?_⟩; conv => whnf)
      repeat (first | ((first | refine opt_some (getC_rows rfl rfl (by omega)) ?_ | refine opt_some (by dsimp only; exact getC_lent rfl rfl (by omega)) ?_ | refine opt_some rfl ?_ | refine ⟨_, (by simp only [nf, nl, nm, en, ints, setC_setC, Nat.reduceAdd, Nat.reduceMul, hga, e1]; exact rfl), ?_⟩ | refine ⟨_, pickT rfl, ?_⟩ | refine ⟨_, rfl, ?_⟩ | refine iteP_true rfl ?_ | refine iteP_false rfl ?_ | refine iteP_true ‹_› ?_ | refine iteP_false ‹_› ?_ | refine andK ?_ | refine andA ?_ | refine andT ?_); conv => whnf))
      (refine ⟨_, hO, ?_⟩; conv => whnf)
      repeat (first | ((first | refine opt_some (getC_rows rfl rfl (by omega)) ?_ | refine opt_some (by dsimp only; exact getC_lent rfl rfl (by omega)) ?_ | refine opt_some rfl ?_ | refine ⟨_, (by simp only [nf, nl, nm, en, ints, setC_setC, Nat.reduceAdd, Nat.reduceMul, hga, e1, hne]; exact rfl), ?_⟩ | refine ⟨_, pickT rfl, ?_⟩ | refine ⟨_, rfl, ?_⟩ | refine iteP_true rfl ?_ | refine iteP_false rfl ?_ | refine iteP_true ‹_› ?_ | refine iteP_false ‹_› ?_ | refine andK ?_ | refine andA ?_ | refine andT ?_); conv => whnf))
      rfl
  · have hae : a = ms.length := by have := leF hb; omega
    have hBt : B = true := hsa.1 (by rw [← hae]; exact hpa)
    subst hBt
    repeat' (first | ((first | refine opt_some (getC_rows rfl rfl (by omega)) ?_ | refine opt_some (by dsimp only; exact getC_lent rfl rfl (by omega)) ?_ | refine opt_some rfl ?_ | refine ⟨_, (by simp only [nf, nl, nm, en, ints, setC_setC, Nat.reduceAdd, Nat.reduceMul]; exact rfl), ?_⟩ | refine ⟨_, pickT rfl, ?_⟩ | refine ⟨_, rfl, ?_⟩ | refine iteP_true rfl ?_ | refine iteP_false rfl ?_ | refine iteP_true ‹_› ?_ | refine iteP_false ‹_› ?_ | refine andK ?_ | refine andA ?_ | refine andT ?_); conv => whnf) | (refine iteP_intro (fun hb => ?_) (fun hb => ?_) <;> (conv => whnf)))
    rfl
theorem filt_snoc {p : Nat → Bool} (m : Nat) : (List.range (m + 1)).filter p = (List.range m).filter p ++ if p m then [m] else [] := by
  rw [List.range_succ, List.filter_append]
  congr 1
  cases h : p m <;> simp [h]
set_option maxHeartbeats 16000000 in
set_option maxRecDepth 100000 in
theorem l02Steps_ret (ms : List Nat) (hA : Alpha ms) (hl : ms.length ≤ 8) : Ret Tryd.prog G0 51 [⟨.ro, .agg [i64 ms.length, ints (natI ms)]⟩] ⟨.one (ints (natI (stepL (dep ms) ms.length))), []⟩ := by
  have hp8 : 2 ^ ms.length ≤ 2 ^ 8 := Nat.pow_le_pow_right (by decide) hl
  have hp0 := Nat.two_pow_pos ms.length
  have hF := l01Full_ret ms.length (by omega)
  rw [show ((2 ^ ms.length : Nat) : Int) - 1 = ((2 ^ ms.length - 1 : Nat) : Int) by omega] at hF
  unfold stepL
  (refine ret_of_den (E := en 21 [] (fun _ => [(1, 0), (3, 0), (4, 0)]) (fun _ => [])) tt_ok mixed Tryd.func51 rfl rfl rfl rfl ?_; refine ⟨by simp, ?_⟩)
  repeat' (first | ((first | refine opt_some (getC_rows rfl rfl (by omega)) ?_ | refine opt_some (by dsimp only; exact getC_lent rfl rfl (by omega)) ?_ | refine opt_some rfl ?_ | refine ⟨_, (by simp only [nf, nl, nm, en, ints, setC_setC, Nat.reduceAdd, Nat.reduceMul]; exact rfl), ?_⟩ | refine ⟨_, pickT rfl, ?_⟩ | refine ⟨_, rfl, ?_⟩ | refine iteP_true rfl ?_ | refine iteP_false rfl ?_ | refine iteP_true ‹_› ?_ | refine iteP_false ‹_› ?_ | refine andK ?_ | refine andA ?_ | refine andT ?_); conv => whnf) | (refine iteP_intro (fun hb => ?_) (fun hb => ?_) <;> (conv => whnf)))
  refine ⟨fun k vs => ∃ m : Nat, m ≤ 2 ^ ms.length ∧ vs = [.one (.ptr [i64 ms.length, .shd (ints (natI ms))]), .one (ints (natI ((List.range m).filter (stpR (dep ms) ms.length)))), .one (i64 m)] ∧ k = 2 ^ ms.length - m, rfl, ⟨_, 0, by omega, rfl, rfl⟩, ?_⟩
  rintro k vs ⟨m, hm, rfl, rfl⟩
  have hfl := List.length_filter_le (stpR (dep ms) ms.length) (List.range m)
  rw [List.length_range] at hfl
  have hfn := natI_length ((List.range m).filter (stpR (dep ms) ms.length))
  have hsn := filt_snoc (p := stpR (dep ms) ms.length) m
  repeat (first | ((first | refine opt_some (getC_rows rfl rfl (by omega)) ?_ | refine opt_some (by dsimp only; exact getC_lent rfl rfl (by omega)) ?_ | refine opt_some rfl ?_ | refine ⟨_, (by simp only [nf, nl, nm, en, ints, setC_setC, Nat.reduceAdd, Nat.reduceMul]; exact rfl), ?_⟩ | refine ⟨_, pickT rfl, ?_⟩ | refine ⟨_, rfl, ?_⟩ | refine iteP_true rfl ?_ | refine iteP_false rfl ?_ | refine iteP_true ‹_› ?_ | refine iteP_false ‹_› ?_ | refine andK ?_ | refine andA ?_ | refine andT ?_); conv => whnf))
  (refine ⟨_, hF, ?_⟩; conv => whnf)
  repeat (first | ((first | refine opt_some (getC_rows rfl rfl (by omega)) ?_ | refine opt_some (by dsimp only; exact getC_lent rfl rfl (by omega)) ?_ | refine opt_some rfl ?_ | refine ⟨_, (by simp only [nf, nl, nm, en, ints, setC_setC, Nat.reduceAdd, Nat.reduceMul]; exact rfl), ?_⟩ | refine ⟨_, pickT rfl, ?_⟩ | refine ⟨_, rfl, ?_⟩ | refine iteP_true rfl ?_ | refine iteP_false rfl ?_ | refine iteP_true ‹_› ?_ | refine iteP_false ‹_› ?_ | refine andK ?_ | refine andA ?_ | refine andT ?_); conv => whnf))
  refine iteP_intro (fun hb => ?_) (fun hb => ?_) <;> (conv => whnf)
  · have hm' : m < 2 ^ ms.length := by have := leT hb; omega
    have hS := l02Step_ret ms hA hl m hm'
    by_cases hst : stpR (dep ms) ms.length m = true
    · rw [hst] at hS
      rw [hst, if_pos rfl] at hsn
      repeat (first | ((first | refine opt_some (getC_rows rfl rfl (by omega)) ?_ | refine opt_some (by dsimp only; exact getC_lent rfl rfl (by omega)) ?_ | refine opt_some rfl ?_ | refine ⟨_, (by simp only [nf, nl, nm, en, ints, setC_setC, Nat.reduceAdd, Nat.reduceMul]; exact rfl), ?_⟩ | refine ⟨_, pickT rfl, ?_⟩ | refine ⟨_, rfl, ?_⟩ | refine iteP_true rfl ?_ | refine iteP_false rfl ?_ | refine iteP_true ‹_› ?_ | refine iteP_false ‹_› ?_ | refine andK ?_ | refine andA ?_ | refine andT ?_); conv => whnf))
      (refine ⟨_, hS, ?_⟩; conv => whnf)
      repeat (first | ((first | refine opt_some (getC_rows rfl rfl (by omega)) ?_ | refine opt_some (by dsimp only; exact getC_lent rfl rfl (by omega)) ?_ | refine opt_some rfl ?_ | refine ⟨_, (by simp only [nf, nl, nm, en, ints, setC_setC, Nat.reduceAdd, Nat.reduceMul]; exact rfl), ?_⟩ | refine ⟨_, pickT rfl, ?_⟩ | refine ⟨_, rfl, ?_⟩ | refine iteP_true rfl ?_ | refine iteP_false rfl ?_ | refine iteP_true ‹_› ?_ | refine iteP_false ‹_› ?_ | refine andK ?_ | refine andA ?_ | refine andT ?_); conv => whnf))
      refine ⟨_, ?_, m + 1, hm', ?_, rfl⟩
      · omega
      · rw [wrap_succ (by omega), hsn, ints_natI_snoc]
        rfl
    · have hst : stpR (dep ms) ms.length m = false := by simpa using hst
      rw [hst] at hS
      rw [hst, if_neg (by simp), List.append_nil] at hsn
      repeat (first | ((first | refine opt_some (getC_rows rfl rfl (by omega)) ?_ | refine opt_some (by dsimp only; exact getC_lent rfl rfl (by omega)) ?_ | refine opt_some rfl ?_ | refine ⟨_, (by simp only [nf, nl, nm, en, ints, setC_setC, Nat.reduceAdd, Nat.reduceMul]; exact rfl), ?_⟩ | refine ⟨_, pickT rfl, ?_⟩ | refine ⟨_, rfl, ?_⟩ | refine iteP_true rfl ?_ | refine iteP_false rfl ?_ | refine iteP_true ‹_› ?_ | refine iteP_false ‹_› ?_ | refine andK ?_ | refine andA ?_ | refine andT ?_); conv => whnf))
      (refine ⟨_, hS, ?_⟩; conv => whnf)
      repeat (first | ((first | refine opt_some (getC_rows rfl rfl (by omega)) ?_ | refine opt_some (by dsimp only; exact getC_lent rfl rfl (by omega)) ?_ | refine opt_some rfl ?_ | refine ⟨_, (by simp only [nf, nl, nm, en, ints, setC_setC, Nat.reduceAdd, Nat.reduceMul]; exact rfl), ?_⟩ | refine ⟨_, pickT rfl, ?_⟩ | refine ⟨_, rfl, ?_⟩ | refine iteP_true rfl ?_ | refine iteP_false rfl ?_ | refine iteP_true ‹_› ?_ | refine iteP_false ‹_› ?_ | refine andK ?_ | refine andA ?_ | refine andT ?_); conv => whnf))
      refine ⟨_, ?_, m + 1, hm', ?_, rfl⟩
      · omega
      · rw [wrap_succ (by omega), hsn]
        rfl
  · have hme : m = 2 ^ ms.length := by have := leF hb; omega
    rw [hme]
    repeat' (first | ((first | refine opt_some (getC_rows rfl rfl (by omega)) ?_ | refine opt_some (by dsimp only; exact getC_lent rfl rfl (by omega)) ?_ | refine opt_some rfl ?_ | refine ⟨_, (by simp only [nf, nl, nm, en, ints, setC_setC, Nat.reduceAdd, Nat.reduceMul]; exact rfl), ?_⟩ | refine ⟨_, pickT rfl, ?_⟩ | refine ⟨_, rfl, ?_⟩ | refine iteP_true rfl ?_ | refine iteP_false rfl ?_ | refine iteP_true ‹_› ?_ | refine iteP_false ‹_› ?_ | refine andK ?_ | refine andA ?_ | refine andT ?_); conv => whnf) | (refine iteP_intro (fun hb => ?_) (fun hb => ?_) <;> (conv => whnf)))
    rfl
end Go.Proofs.YtihdeagknggeiaaDoor
