import Derived.Test.YtihdeagknggeiaaDoorFp
set_option autoImplicit false
set_option linter.unusedSimpArgs false
set_option linter.unusedVariables false
namespace Go.Proofs.YtihdeagknggeiaaDoor
open Go.Den
set_option maxHeartbeats 16000000 in
set_option maxRecDepth 100000 in
theorem nform_nil (ms : List Nat) : nform ms [] = [] := rfl
theorem nform_step {ms r : List Nat} {a : Nat} (h : leastF ms r = some a) : nform ms r = a :: nform ms (r.erase a) := by
  obtain ⟨h1, h2⟩ := leastF_some h
  have hl := erase_length (canF_mem h2)
  have hp : 0 < r.length := List.length_pos_of_mem (canF_mem h2)
  unfold nform
  rw [hl, show r.length = r.length - 1 + 1 by omega]
  simp only [nfk, h]
  rfl
/-- How far the normal form is: what is taken, and what is left. -/
structure NfAt (ms w acc r : List Nat) : Prop where
  wd : Wd ms r
  le : r.length ≤ w.length
  eq : acc ++ nform ms r = nform ms w
theorem NfAt.start {ms w : List Nat} (hw : Wd ms w) : NfAt ms w [] w := ⟨hw, Nat.le_refl _, rfl⟩
theorem NfAt.step {ms w acc r : List Nat} {a : Nat} (h : NfAt ms w acc r) (ha : leastF ms r = some a) : NfAt ms w (acc ++ [a]) (r.erase a) ∧ (r.erase a).length + 1 = r.length := by
  obtain ⟨h1, h2⟩ := leastF_some ha
  have hl := erase_length (canF_mem h2)
  have hp : 0 < r.length := List.length_pos_of_mem (canF_mem h2)
  refine ⟨⟨h.wd.erase a, by have := h.le; omega, ?_⟩, by omega⟩
  rw [← h.eq, nform_step ha, List.append_assoc]
  rfl
theorem NfAt.stop {ms w acc r : List Nat} (h : NfAt ms w acc r) (h0 : r.length = 0) : nform ms w = acc := by
  rw [← h.eq, List.length_eq_zero_iff.1 h0, nform_nil, List.append_nil]
theorem leastF_pos {ms r : List Nat} (hw : Wd ms r) (h : 0 < r.length) : ∃ a, leastF ms r = some a := by
  cases r with
  | nil => simp at h
  | cons c r => exact leastF_cons hw
theorem leastF_first {ms r : List Nat} {a : Nat} (ha : a < ms.length) (h : canF ms a r = true) (hb : ∀ b < a, canF ms b r = false) : leastF ms r = some a := by
  unfold leastF
  rw [List.find?_eq_some_iff_getElem]
  refine ⟨h, a, by simpa using ha, by simp, fun j hj => ?_⟩
  simp [hb j hj]
/-- What the normal form of all letters has. -/
theorem nfat_len {ms w acc r : List Nat} (hA : Alpha ms) (hw : Wd ms w) (h : NfAt ms w acc r) : acc.length ≤ w.length := by
  have := congrArg List.length h.eq
  rw [List.length_append, nform_length hA hw] at this
  omega
set_option maxHeartbeats 16000000 in
set_option maxRecDepth 100000 in
theorem normal_ret (ms w : List Nat) (hA : Alpha ms) (hl : ms.length ≤ 16) (hw : Wd ms w) (hx : w.length ≤ 2 ^ 39) : Ret Tryd.prog G0 79 [⟨.ro, .one (ints (natI ms))⟩, ⟨.ro, .one (ints (natI w))⟩] ⟨.one (ints (natI (nform ms w))), []⟩ := by
  have hwl := natI_length w
  (refine ret_of_den (E := en 27 [] (fun _ => [(5, 0), (6, 1), (0, 1)]) (fun _ => [])) tt_ok mixed Tryd.func79 rfl rfl rfl rfl ?_; refine ⟨by simp, ?_⟩)
  repeat (first | ((first | refine opt_some (getC_rows rfl rfl (by omega)) ?_ | refine opt_some (by dsimp only; exact getC_lent rfl rfl (by omega)) ?_ | refine opt_some rfl ?_ | refine ⟨_, (by simp only [nf, nl, nm, en, ints, setC_setC, Nat.reduceAdd, Nat.reduceMul]; exact rfl), ?_⟩ | refine ⟨_, pickT rfl, ?_⟩ | refine ⟨_, rfl, ?_⟩ | refine iteP_true rfl ?_ | refine iteP_false rfl ?_ | refine iteP_true ‹_› ?_ | refine iteP_false ‹_› ?_ | refine andK ?_ | refine andA ?_ | refine andT ?_); conv => whnf))
  refine ⟨fun k vs => ∃ acc r : List Nat, NfAt ms w acc r ∧ vs = [.one (ints (natI acc)), .one (.shd (ints (natI r))), .one (.shd (ints (natI ms)))] ∧ k = r.length, rfl, ⟨_, [], w, NfAt.start hw, rfl, rfl⟩, ?_⟩
  rintro k vs ⟨acc, r, hr, rfl, rfl⟩
  have hrl := natI_length r
  have hle := hr.le
  have hal := nfat_len hA hw hr
  have hacl := natI_length acc
  repeat (first | ((first | refine opt_some (getC_rows rfl rfl (by omega)) ?_ | refine opt_some (by dsimp only; exact getC_lent rfl rfl (by omega)) ?_ | refine opt_some rfl ?_ | refine ⟨_, (by simp only [nf, nl, nm, en, ints, setC_setC, Nat.reduceAdd, Nat.reduceMul]; exact rfl), ?_⟩ | refine ⟨_, pickT rfl, ?_⟩ | refine ⟨_, rfl, ?_⟩ | refine iteP_true rfl ?_ | refine iteP_false rfl ?_ | refine iteP_true ‹_› ?_ | refine iteP_false ‹_› ?_ | refine andK ?_ | refine andA ?_ | refine andT ?_); conv => whnf))
  refine iteP_intro (fun hb => ?_) (fun hb => ?_) <;> (conv => whnf)
  · have hp : 0 < r.length := by have := leT hb; omega
    obtain ⟨a, ha⟩ := leastF_pos hr.wd hp
    obtain ⟨ha1, ha2⟩ := leastF_some ha
    obtain ⟨hs1, hs2⟩ := hr.step ha
    have hf := firsts_ret ms r hl hA.lt hr.wd (by omega)
    have hle := least_ret (fstM ms r) (maskN_lt63 _ (by omega))
    rw [ctz_fst (by omega) ha] at hle
    have hwo := without_ret r a (by omega) (canF_mem ha2)
    repeat (first | ((first | refine opt_some (getC_rows rfl rfl (by omega)) ?_ | refine opt_some (by dsimp only; exact getC_lent rfl rfl (by omega)) ?_ | refine opt_some rfl ?_ | refine ⟨_, (by simp only [nf, nl, nm, en, ints, setC_setC, Nat.reduceAdd, Nat.reduceMul]; exact rfl), ?_⟩ | refine ⟨_, pickT rfl, ?_⟩ | refine ⟨_, rfl, ?_⟩ | refine iteP_true rfl ?_ | refine iteP_false rfl ?_ | refine iteP_true ‹_› ?_ | refine iteP_false ‹_› ?_ | refine andK ?_ | refine andA ?_ | refine andT ?_); conv => whnf))
    (refine ⟨_, hf, ?_⟩; conv => whnf)
    repeat (first | ((first | refine opt_some (getC_rows rfl rfl (by omega)) ?_ | refine opt_some (by dsimp only; exact getC_lent rfl rfl (by omega)) ?_ | refine opt_some rfl ?_ | refine ⟨_, (by simp only [nf, nl, nm, en, ints, setC_setC, Nat.reduceAdd, Nat.reduceMul]; exact rfl), ?_⟩ | refine ⟨_, pickT rfl, ?_⟩ | refine ⟨_, rfl, ?_⟩ | refine iteP_true rfl ?_ | refine iteP_false rfl ?_ | refine iteP_true ‹_› ?_ | refine iteP_false ‹_› ?_ | refine andK ?_ | refine andA ?_ | refine andT ?_); conv => whnf))
    (refine ⟨_, hle, ?_⟩; conv => whnf)
    repeat (first | ((first | refine opt_some (getC_rows rfl rfl (by omega)) ?_ | refine opt_some (by dsimp only; exact getC_lent rfl rfl (by omega)) ?_ | refine opt_some rfl ?_ | refine ⟨_, (by simp only [nf, nl, nm, en, ints, setC_setC, Nat.reduceAdd, Nat.reduceMul]; exact rfl), ?_⟩ | refine ⟨_, pickT rfl, ?_⟩ | refine ⟨_, rfl, ?_⟩ | refine iteP_true rfl ?_ | refine iteP_false rfl ?_ | refine iteP_true ‹_› ?_ | refine iteP_false ‹_› ?_ | refine andK ?_ | refine andA ?_ | refine andT ?_); conv => whnf))
    (refine ⟨_, hwo, ?_⟩; conv => whnf)
    repeat (first | ((first | refine opt_some (getC_rows rfl rfl (by omega)) ?_ | refine opt_some (by dsimp only; exact getC_lent rfl rfl (by omega)) ?_ | refine opt_some rfl ?_ | refine ⟨_, (by simp only [nf, nl, nm, en, ints, setC_setC, Nat.reduceAdd, Nat.reduceMul]; exact rfl), ?_⟩ | refine ⟨_, pickT rfl, ?_⟩ | refine ⟨_, rfl, ?_⟩ | refine iteP_true rfl ?_ | refine iteP_false rfl ?_ | refine iteP_true ‹_› ?_ | refine iteP_false ‹_› ?_ | refine andK ?_ | refine andA ?_ | refine andT ?_); conv => whnf))
    refine ⟨_, ?_, acc ++ [a], r.erase a, hs1, ?_, rfl⟩
    · omega
    · rw [ints_natI_snoc]
      rfl
  · have h0 : r.length = 0 := by have := leF hb; omega
    repeat' (first | ((first | refine opt_some (getC_rows rfl rfl (by omega)) ?_ | refine opt_some (by dsimp only; exact getC_lent rfl rfl (by omega)) ?_ | refine opt_some rfl ?_ | refine ⟨_, (by simp only [nf, nl, nm, en, ints, setC_setC, Nat.reduceAdd, Nat.reduceMul]; exact rfl), ?_⟩ | refine ⟨_, pickT rfl, ?_⟩ | refine ⟨_, rfl, ?_⟩ | refine iteP_true rfl ?_ | refine iteP_false rfl ?_ | refine iteP_true ‹_› ?_ | refine iteP_false ‹_› ?_ | refine andK ?_ | refine andA ?_ | refine andT ?_); conv => whnf) | (refine iteP_intro (fun hb => ?_) (fun hb => ?_) <;> (conv => whnf)))
    rw [hr.stop h0]
    rfl
end Go.Proofs.YtihdeagknggeiaaDoor
