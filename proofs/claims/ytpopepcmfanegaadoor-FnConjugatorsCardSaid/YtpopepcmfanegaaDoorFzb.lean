import Derived.Test.YtpopepcmfanegaaDoorFza
set_option autoImplicit false
set_option linter.unusedSimpArgs false
set_option linter.unusedVariables false
namespace Go.Proofs.YtpopepcmfanegaaDoor
open Go.Den
/-- A word that follows from a word. -/
def oneR (f : List Nat → List Nat → List Nat) (n : Int) (ds xs : List Int) : List Nat × Int :=
  if alphaOk n ds then (if wordN n xs then (f (ds.map Int.toNat) (xs.map Int.toNat), 0) else ([], 2)) else ([], 1)
theorem oneR_bad {f : List Nat → List Nat → List Nat} {n : Int} {ds xs : List Int} (h : alphaOk n ds = false) : oneR f n ds xs = ([], 1) := by
  unfold oneR
  rw [if_neg (by rw [h]; simp)]
theorem oneR_out {f : List Nat → List Nat → List Nat} {n : Int} {ds xs : List Int} (h : alphaOk n ds = true) (hw : wordN n xs = false) : oneR f n ds xs = ([], 2) := by
  unfold oneR
  rw [if_pos h, if_neg (by rw [hw]; simp)]
theorem oneR_in {f : List Nat → List Nat → List Nat} {n : Int} {ds xs : List Int} {ms w : List Nat} (h : alphaOk n ds = true) (hw : wordN n xs = true) (e1 : ds.map Int.toNat = ms) (e2 : xs.map Int.toNat = w) : oneR f n ds xs = (f ms w, 0) := by
  unfold oneR
  rw [if_pos h, if_pos hw, e1, e2]
theorem oneR_nz {f : List Nat → List Nat → List Nat} {n : Int} {ds xs : List Int} (h : (oneR f n ds xs).2 ≠ 0) : (oneR f n ds xs).1 = [] := by
  unfold oneR at h ⊢
  split
  · next ha =>
    rw [if_pos ha] at h
    split
    · next hw =>
      rw [if_pos hw] at h
      exact absurd rfl h
    · rfl
  · rfl
theorem oneR_le (f : List Nat → List Nat → List Nat) (n : Int) (ds xs : List Int) : (oneR f n ds xs).2 ≠ 0 → OLe nilS (ints (natI (oneR f n ds xs).1)) := fun h => ints_nil_le (oneR_nz h)
theorem oneR_ok {f : List Nat → List Nat → List Nat} {n : Int} {ds xs : List Int} (h : (oneR f n ds xs).2 = 0) : ∃ ms w : List Nat, n = ms.length ∧ ds = natI ms ∧ ms.length ≤ 8 ∧ Alpha ms ∧ xs = natI w ∧ w.length ≤ 24 ∧ Wd ms w ∧ alphaOk n ds = true ∧ wordN n xs = true ∧ ds.map Int.toNat = ms ∧ xs.map Int.toNat = w := by
  cases ha : alphaOk n ds with
  | false => rw [oneR_bad ha] at h; exact absurd h (by simp)
  | true =>
    cases hw : wordN n xs with
    | false => rw [oneR_out ha hw] at h; exact absurd h (by simp)
    | true =>
      obtain ⟨ms, e1, rfl, rfl, hl, hA⟩ := alpha_ok ha
      obtain ⟨w, e2, rfl, hwl, hwc⟩ := word_nat hw
      exact ⟨ms, w, rfl, rfl, hl, hA, rfl, hwl, word_wd hwc, rfl, rfl, e1, e2⟩
set_option maxHeartbeats 4000000 in
set_option maxRecDepth 100000 in
theorem normI_ret (n : Int) (ds xs : List Int) (hd : ds.length < 2 ^ 62) (hx : xs.length < 2 ^ 62) : Ret Tryd.prog G0 15 [⟨.ro, .agg [i64 n, ints ds]⟩, ⟨.ro, .one (ints xs)⟩] ⟨.tup [(false, [ints (natI (oneR nform n ds xs).1)]), (false, [i64 (oneR nform n ds xs).2])], []⟩ := by
  refine Ret.nz ?_ (oneR_le nform n ds xs)
  have hcw := checkWords_ret n ds [xs] hd (by simp) (by simpa using hx)
  have hti := ties_ret n ds
  unfold rowsI at hcw
  cases ha : alphaOk n ds with
  | false =>
    rw [oneR_bad ha]
    rw [ha, wcode_f] at hcw
    (refine ret_of_den (E := en 18 [] (fun _ => []) (fun _ => [])) tt_ok mixed Tryd.func15 rfl rfl rfl rfl ?_; refine ⟨by simp, ?_⟩)
    repeat' (first | ((first | refine opt_some (getC_rows rfl rfl (by omega)) ?_ | refine opt_some (by dsimp only; exact getC_lent rfl rfl (by omega)) ?_ | refine opt_some rfl ?_ | refine ⟨_, (by simp only [nf, nl, nm, en, ints, setC_setC, Nat.reduceAdd, Nat.reduceMul]; exact rfl), ?_⟩ | refine ⟨_, pickT rfl, ?_⟩ | refine ⟨_, rfl, ?_⟩ | refine iteP_true rfl ?_ | refine iteP_false rfl ?_ | refine iteP_true ‹_› ?_ | refine iteP_false ‹_› ?_ | refine andK ?_ | refine andA ?_ | refine andT ?_); conv => whnf) | (refine iteP_intro (fun hb => ?_) (fun hb => ?_) <;> (conv => whnf)))
    (refine ⟨_, hcw, ?_⟩; conv => whnf)
    repeat' (first | ((first | refine opt_some (getC_rows rfl rfl (by omega)) ?_ | refine opt_some (by dsimp only; exact getC_lent rfl rfl (by omega)) ?_ | refine opt_some rfl ?_ | refine ⟨_, (by simp only [nf, nl, nm, en, ints, setC_setC, Nat.reduceAdd, Nat.reduceMul]; exact rfl), ?_⟩ | refine ⟨_, pickT rfl, ?_⟩ | refine ⟨_, rfl, ?_⟩ | refine iteP_true rfl ?_ | refine iteP_false rfl ?_ | refine iteP_true ‹_› ?_ | refine iteP_false ‹_› ?_ | refine andK ?_ | refine andA ?_ | refine andT ?_); conv => whnf) | (refine iteP_intro (fun hb => ?_) (fun hb => ?_) <;> (conv => whnf)))
    rfl
  | true =>
    cases hw : wordN n xs with
    | false =>
      rw [oneR_out ha hw]
      rw [ha, wcode_t] at hcw
      simp only [List.all_cons, List.all_nil, hw, Bool.and_true] at hcw
      (refine ret_of_den (E := en 18 [] (fun _ => []) (fun _ => [])) tt_ok mixed Tryd.func15 rfl rfl rfl rfl ?_; refine ⟨by simp, ?_⟩)
      repeat' (first | ((first | refine opt_some (getC_rows rfl rfl (by omega)) ?_ | refine opt_some (by dsimp only; exact getC_lent rfl rfl (by omega)) ?_ | refine opt_some rfl ?_ | refine ⟨_, (by simp only [nf, nl, nm, en, ints, setC_setC, Nat.reduceAdd, Nat.reduceMul]; exact rfl), ?_⟩ | refine ⟨_, pickT rfl, ?_⟩ | refine ⟨_, rfl, ?_⟩ | refine iteP_true rfl ?_ | refine iteP_false rfl ?_ | refine iteP_true ‹_› ?_ | refine iteP_false ‹_› ?_ | refine andK ?_ | refine andA ?_ | refine andT ?_); conv => whnf) | (refine iteP_intro (fun hb => ?_) (fun hb => ?_) <;> (conv => whnf)))
      (refine ⟨_, hcw, ?_⟩; conv => whnf)
      repeat' (first | ((first | refine opt_some (getC_rows rfl rfl (by omega)) ?_ | refine opt_some (by dsimp only; exact getC_lent rfl rfl (by omega)) ?_ | refine opt_some rfl ?_ | refine ⟨_, (by simp only [nf, nl, nm, en, ints, setC_setC, Nat.reduceAdd, Nat.reduceMul]; exact rfl), ?_⟩ | refine ⟨_, pickT rfl, ?_⟩ | refine ⟨_, rfl, ?_⟩ | refine iteP_true rfl ?_ | refine iteP_false rfl ?_ | refine iteP_true ‹_› ?_ | refine iteP_false ‹_› ?_ | refine andK ?_ | refine andA ?_ | refine andT ?_); conv => whnf) | (refine iteP_intro (fun hb => ?_) (fun hb => ?_) <;> (conv => whnf)))
      rfl
    | true =>
      obtain ⟨ms, e1, rfl, rfl, hl, hA⟩ := alpha_ok ha
      obtain ⟨w, e2, rfl, hwl, hwc⟩ := word_nat hw
      have hN := normal_ret ms w hA (by omega) (word_wd hwc) (by omega)
      rw [oneR_in ha hw e1 e2]
      rw [ha, wcode_t] at hcw
      simp only [List.all_cons, List.all_nil, hw, Bool.and_true] at hcw
      (refine ret_of_den (E := en 18 [] (fun _ => []) (fun _ => [])) tt_ok mixed Tryd.func15 rfl rfl rfl rfl ?_; refine ⟨by simp, ?_⟩)
      repeat' (first | ((first | refine opt_some (getC_rows rfl rfl (by omega)) ?_ | refine opt_some (by dsimp only; exact getC_lent rfl rfl (by omega)) ?_ | refine opt_some rfl ?_ | refine ⟨_, (by simp only [nf, nl, nm, en, ints, setC_setC, Nat.reduceAdd, Nat.reduceMul]; exact rfl), ?_⟩ | refine ⟨_, pickT rfl, ?_⟩ | refine ⟨_, rfl, ?_⟩ | refine iteP_true rfl ?_ | refine iteP_false rfl ?_ | refine iteP_true ‹_› ?_ | refine iteP_false ‹_› ?_ | refine andK ?_ | refine andA ?_ | refine andT ?_); conv => whnf) | (refine iteP_intro (fun hb => ?_) (fun hb => ?_) <;> (conv => whnf)))
      (refine ⟨_, hcw, ?_⟩; conv => whnf)
      repeat' (first | ((first | refine opt_some (getC_rows rfl rfl (by omega)) ?_ | refine opt_some (by dsimp only; exact getC_lent rfl rfl (by omega)) ?_ | refine opt_some rfl ?_ | refine ⟨_, (by simp only [nf, nl, nm, en, ints, setC_setC, Nat.reduceAdd, Nat.reduceMul]; exact rfl), ?_⟩ | refine ⟨_, pickT rfl, ?_⟩ | refine ⟨_, rfl, ?_⟩ | refine iteP_true rfl ?_ | refine iteP_false rfl ?_ | refine iteP_true ‹_› ?_ | refine iteP_false ‹_› ?_ | refine andK ?_ | refine andA ?_ | refine andT ?_); conv => whnf) | (refine iteP_intro (fun hb => ?_) (fun hb => ?_) <;> (conv => whnf)))
      (refine ⟨_, hti, ?_⟩; conv => whnf)
      repeat' (first | ((first | refine opt_some (getC_rows rfl rfl (by omega)) ?_ | refine opt_some (by dsimp only; exact getC_lent rfl rfl (by omega)) ?_ | refine opt_some rfl ?_ | refine ⟨_, (by simp only [nf, nl, nm, en, ints, setC_setC, Nat.reduceAdd, Nat.reduceMul]; exact rfl), ?_⟩ | refine ⟨_, pickT rfl, ?_⟩ | refine ⟨_, rfl, ?_⟩ | refine iteP_true rfl ?_ | refine iteP_false rfl ?_ | refine iteP_true ‹_› ?_ | refine iteP_false ‹_› ?_ | refine andK ?_ | refine andA ?_ | refine andT ?_); conv => whnf) | (refine iteP_intro (fun hb => ?_) (fun hb => ?_) <;> (conv => whnf)))
      (refine ⟨_, hN, ?_⟩; conv => whnf)
      repeat' (first | ((first | refine opt_some (getC_rows rfl rfl (by omega)) ?_ | refine opt_some (by dsimp only; exact getC_lent rfl rfl (by omega)) ?_ | refine opt_some rfl ?_ | refine ⟨_, (by simp only [nf, nl, nm, en, ints, setC_setC, Nat.reduceAdd, Nat.reduceMul]; exact rfl), ?_⟩ | refine ⟨_, pickT rfl, ?_⟩ | refine ⟨_, rfl, ?_⟩ | refine iteP_true rfl ?_ | refine iteP_false rfl ?_ | refine iteP_true ‹_› ?_ | refine iteP_false ‹_› ?_ | refine andK ?_ | refine andA ?_ | refine andT ?_); conv => whnf) | (refine iteP_intro (fun hb => ?_) (fun hb => ?_) <;> (conv => whnf)))
      rfl
end Go.Proofs.YtpopepcmfanegaaDoor
