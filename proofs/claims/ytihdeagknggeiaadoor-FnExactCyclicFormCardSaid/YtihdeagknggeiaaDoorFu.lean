import Derived.Test.YtihdeagknggeiaaDoorFt
set_option autoImplicit false
set_option linter.unusedSimpArgs false
set_option linter.unusedVariables false
namespace Go.Proofs.YtihdeagknggeiaaDoor
open Go.Den
set_option maxHeartbeats 4000000 in
set_option maxRecDepth 100000 in
theorem l01Same_ret (a b : List Int) (ha : a.length < 2 ^ 62) : Ret Tryd.prog G0 120 [⟨.ro, .one (ints a)⟩, ⟨.ro, .one (ints b)⟩] ⟨.one (.c (.bool (decide (a = b)))), []⟩ := by
  (refine ret_of_den (E := en 26 [] (fun _ => [(5, 0), (0, 1), (1, 1)]) (fun _ => [])) tt_ok mixed Tryd.func120 rfl rfl rfl rfl ?_; refine ⟨by simp, ?_⟩)
  repeat' (first | ((first | refine opt_some (getC_rows rfl rfl (by omega)) ?_ | refine opt_some (by dsimp only; exact getC_lent rfl rfl (by omega)) ?_ | refine opt_some rfl ?_ | refine ⟨_, (by simp only [nf, nl, nm, en, ints, setC_setC, Nat.reduceAdd, Nat.reduceMul]; exact rfl), ?_⟩ | refine ⟨_, pickT rfl, ?_⟩ | refine ⟨_, rfl, ?_⟩ | refine iteP_true rfl ?_ | refine iteP_false rfl ?_ | refine iteP_true ‹_› ?_ | refine iteP_false ‹_› ?_ | refine andK ?_ | refine andA ?_ | refine andT ?_); conv => whnf) | (refine iteP_intro (fun hb => ?_) (fun hb => ?_) <;> (conv => whnf)))
  · have : a ≠ b := fun e => by simp [e] at hb
    exact endB (by simp [this])
  have hl : a.length = b.length := Int.natCast_inj.1 (neF hb)
  refine ⟨fun k vs => ∃ i : Nat, i ≤ a.length ∧ (∀ j < i, a[j]? = b[j]?) ∧ vs = [.one (i64 i), .one (.shd (ints a)), .one (.shd (ints b))] ∧ k = a.length - i, rfl, ⟨_, 0, by omega, by simp, rfl, rfl⟩, ?_⟩
  rintro k vs ⟨i, hi, hs, rfl, rfl⟩
  repeat (first | ((first | refine opt_some (getC_rows rfl rfl (by omega)) ?_ | refine opt_some (by dsimp only; exact getC_lent rfl rfl (by omega)) ?_ | refine opt_some rfl ?_ | refine ⟨_, (by simp only [nf, nl, nm, en, ints, setC_setC, Nat.reduceAdd, Nat.reduceMul]; exact rfl), ?_⟩ | refine ⟨_, pickT rfl, ?_⟩ | refine ⟨_, rfl, ?_⟩ | refine iteP_true rfl ?_ | refine iteP_false rfl ?_ | refine iteP_true ‹_› ?_ | refine iteP_false ‹_› ?_ | refine andK ?_ | refine andA ?_ | refine andT ?_); conv => whnf))
  refine iteP_intro (fun hb => ?_) (fun hb => ?_) <;> (conv => whnf)
  · have hi' : i < a.length := by have := leT hb; omega
    repeat' (first | ((first | refine opt_some (getC_rows rfl rfl (by omega)) ?_ | refine opt_some (by dsimp only; exact getC_lent rfl rfl (by omega)) ?_ | refine opt_some rfl ?_ | refine ⟨_, (by simp only [nf, nl, nm, en, ints, setC_setC, Nat.reduceAdd, Nat.reduceMul]; exact rfl), ?_⟩ | refine ⟨_, pickT rfl, ?_⟩ | refine ⟨_, rfl, ?_⟩ | refine iteP_true rfl ?_ | refine iteP_false rfl ?_ | refine iteP_true ‹_› ?_ | refine iteP_false ‹_› ?_ | refine andK ?_ | refine andA ?_ | refine andT ?_); conv => whnf) | (refine iteP_intro (fun hb => ?_) (fun hb => ?_) <;> (conv => whnf)))
    · refine endB ?_
      have : a ≠ b := fun e => by subst e; simp at hb
      simp [this]
    · refine ⟨_, ?_, i + 1, hi', fun j hj => ?_, by rw [wrap_succ (by omega)]; rfl, rfl⟩
      · omega
      · rcases Nat.lt_succ_iff_lt_or_eq.1 hj with h | rfl
        · exact hs j h
        · rw [List.getElem?_eq_getElem hi', List.getElem?_eq_getElem (by omega)]
          simpa using hb
  · repeat' (first | ((first | refine opt_some (getC_rows rfl rfl (by omega)) ?_ | refine opt_some (by dsimp only; exact getC_lent rfl rfl (by omega)) ?_ | refine opt_some rfl ?_ | refine ⟨_, (by simp only [nf, nl, nm, en, ints, setC_setC, Nat.reduceAdd, Nat.reduceMul]; exact rfl), ?_⟩ | refine ⟨_, pickT rfl, ?_⟩ | refine ⟨_, rfl, ?_⟩ | refine iteP_true rfl ?_ | refine iteP_false rfl ?_ | refine iteP_true ‹_› ?_ | refine iteP_false ‹_› ?_ | refine andK ?_ | refine andA ?_ | refine andT ?_); conv => whnf) | (refine iteP_intro (fun hb => ?_) (fun hb => ?_) <;> (conv => whnf)))
    obtain rfl : i = a.length := by have := leF hb; omega
    refine endB ?_
    have : a = b := List.ext_getElem? fun j => by
      by_cases hj : j < a.length
      · exact hs j hj
      · rw [List.getElem?_eq_none (by omega), List.getElem?_eq_none (by omega)]
    rw [this]; simp
end Go.Proofs.YtihdeagknggeiaaDoor
