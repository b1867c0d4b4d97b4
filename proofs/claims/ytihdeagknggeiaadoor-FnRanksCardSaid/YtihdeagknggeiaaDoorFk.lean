import Derived.Test.YtihdeagknggeiaaDoorFj
set_option autoImplicit false
set_option linter.unusedSimpArgs false
set_option linter.unusedVariables false
namespace Go.Proofs.YtihdeagknggeiaaDoor
open Go.Den
set_option maxHeartbeats 16000000 in
set_option maxRecDepth 100000 in
theorem clone_ret (xs : List Int) (hx : xs.length ≤ 2 ^ 40) : Ret Tryd.prog G0 87 [⟨.ro, .one (ints xs)⟩] ⟨.one (ints xs), []⟩ := by
  rcases Nat.eq_zero_or_pos xs.length with h | h
  · obtain rfl := List.length_eq_zero_iff.1 h
    refine Ret.empty fun a c => ?_
    cases a with
    | none =>
      refine Ret.relax (v := .one nilS) (os := []) ?_ (.one (.nil _ _)) (.refl _)
      (refine ret_of_den (E := en 8 [] (fun _ => []) (fun _ => [])) tt_ok mixed Tryd.func87 rfl rfl rfl rfl ?_; refine ⟨by simp, ?_⟩)
      repeat' (first | ((first | refine opt_some (getC_rows rfl rfl (by omega)) ?_ | refine opt_some (by dsimp only; exact getC_lent rfl rfl (by omega)) ?_ | refine opt_some rfl ?_ | refine ⟨_, (by simp only [nf, nl, nm, en, ints, setC_setC, Nat.reduceAdd, Nat.reduceMul]; exact rfl), ?_⟩ | refine ⟨_, pickT rfl, ?_⟩ | refine ⟨_, rfl, ?_⟩ | refine iteP_true rfl ?_ | refine iteP_false rfl ?_ | refine iteP_true ‹_› ?_ | refine iteP_false ‹_› ?_ | refine andK ?_ | refine andA ?_ | refine andT ?_); conv => whnf) | (refine iteP_intro (fun hb => ?_) (fun hb => ?_) <;> (conv => whnf)))
      rfl
    | some a =>
      (refine ret_of_den (E := en 8 [] (fun _ => []) (fun _ => [])) tt_ok mixed Tryd.func87 rfl rfl rfl rfl ?_; refine ⟨by simp, ?_⟩)
      repeat' (first | ((first | refine opt_some (getC_rows rfl rfl (by omega)) ?_ | refine opt_some (by dsimp only; exact getC_lent rfl rfl (by omega)) ?_ | refine opt_some rfl ?_ | refine ⟨_, (by simp only [nf, nl, nm, en, ints, setC_setC, Nat.reduceAdd, Nat.reduceMul]; exact rfl), ?_⟩ | refine ⟨_, pickT rfl, ?_⟩ | refine ⟨_, rfl, ?_⟩ | refine iteP_true rfl ?_ | refine iteP_false rfl ?_ | refine iteP_true ‹_› ?_ | refine iteP_false ‹_› ?_ | refine andK ?_ | refine andA ?_ | refine andT ?_); conv => whnf) | (refine iteP_intro (fun hb => ?_) (fun hb => ?_) <;> (conv => whnf)))
      rfl
  · (refine ret_of_den (E := en 8 [] (fun _ => []) (fun _ => [])) tt_ok mixed Tryd.func87 rfl rfl rfl rfl ?_; refine ⟨by simp, ?_⟩)
    repeat' (first | ((first | refine opt_some (getC_rows rfl rfl (by omega)) ?_ | refine opt_some (by dsimp only; exact getC_lent rfl rfl (by omega)) ?_ | refine opt_some rfl ?_ | refine ⟨_, (by simp only [nf, nl, nm, en, ints, setC_setC, Nat.reduceAdd, Nat.reduceMul]; exact rfl), ?_⟩ | refine ⟨_, pickT rfl, ?_⟩ | refine ⟨_, rfl, ?_⟩ | refine iteP_true rfl ?_ | refine iteP_false rfl ?_ | refine iteP_true ‹_› ?_ | refine iteP_false ‹_› ?_ | refine andK ?_ | refine andA ?_ | refine andT ?_); conv => whnf) | (refine iteP_intro (fun hb => ?_) (fun hb => ?_) <;> (conv => whnf)))
    simp [resSV, isAggS, svLike]
/-- Do the first i letters of a beginning bear to the next place as their images to the letter b? -/
def fitP (ms s : List Nat) (b i : Nat) : Bool := (List.range i).all fun j => (ms.getD j 0).testBit s.length == (ms.getD (s.getD j 0) 0).testBit b
theorem fitP_succ (ms s : List Nat) (b i : Nat) : fitP ms s b (i + 1) = (fitP ms s b i && ((ms.getD i 0).testBit s.length == (ms.getD (s.getD i 0) 0).testBit b)) := by
  simp [fitP, List.range_succ]
/-- The symmetries that go on from some letters, k of which are to come. -/
def symG (ms : List Nat) : Nat → List Nat → List (List Nat) → List (List Nat)
  | 0, s, out => if 1000 < out.length then out else out ++ [s]
  | k + 1, s, out => loopN (fun a o => if !s.any (· == a) && fitP ms s a s.length then symG ms k (s ++ [a]) o else o) ms.length out
def symL (ms : List Nat) (k : Nat) (s : List Nat) (out : List (List Nat)) (i : Nat) : List (List Nat) := loopN (fun a o => if !s.any (· == a) && fitP ms s a s.length then symG ms k (s ++ [a]) o else o) i out
theorem symL_succ (ms : List Nat) (k : Nat) (s : List Nat) (out : List (List Nat)) (i : Nat) : symL ms k s out (i + 1) = if !s.any (· == i) && fitP ms s i s.length then symG ms k (s ++ [i]) (symL ms k s out i) else symL ms k s out i := rfl
theorem loopN_stay {σ : Type} {f : Nat → σ → σ} {st : σ} (h : ∀ a, f a st = st) : ∀ n, loopN f n st = st
  | 0 => rfl
  | n + 1 => by rw [loopN, loopN_stay h n, h]
theorem symG_full (ms : List Nat) : ∀ k s {out : List (List Nat)}, 1000 < out.length → symG ms k s out = out
  | 0, s, out, h => by rw [symG, if_pos h]
  | k + 1, s, out, h => by
    rw [symG]
    refine loopN_stay (fun a => ?_) _
    split
    · exact symG_full ms k _ h
    · rfl
theorem loopN_inv {σ : Type} {f : Nat → σ → σ} {p : σ → Prop} (h : ∀ a x, p x → p (f a x)) : ∀ n {st : σ}, p st → p (loopN f n st)
  | 0, _, hs => hs
  | n + 1, _, hs => h _ _ (loopN_inv h n hs)
theorem symG_len (ms : List Nat) : ∀ k s (out : List (List Nat)), out.length ≤ 1001 → (symG ms k s out).length ≤ 1001
  | 0, s, out, h => by
    rw [symG]
    split
    · exact h
    · simp; omega
  | k + 1, s, out, h => by
    rw [symG]
    refine loopN_inv (p := fun o : List (List Nat) => o.length ≤ 1001) (fun a o ho => ?_) _ h
    split
    · exact symG_len ms k _ _ ho
    · exact ho
theorem symL_len (ms : List Nat) (k : Nat) (s : List Nat) (out : List (List Nat)) (i : Nat) (h : out.length ≤ 1001) : (symL ms k s out i).length ≤ 1001 := by
  refine loopN_inv (p := fun o : List (List Nat) => o.length ≤ 1001) (fun a o ho => ?_) _ h
  split
  · exact symG_len ms k _ _ ho
  · exact ho
theorem rowsC_snoc (out : List (List Nat)) (s : List Nat) : rowsC (out ++ [s]) = .sl false 1 (out.length + 1) ((out.map fun r => ints (natI r)) ++ [ints (natI s)]) := by simp [rowsC]
theorem natI_snoc (s : List Nat) (a : Nat) : natI (s ++ [a]) = natI s ++ [(a : Int)] := by simp [natI]
theorem natI_any (s : List Nat) (a : Nat) : (natI s).any (· == (a : Int)) = s.any (· == a) := by
  induction s with
  | nil => rfl
  | cons x s ih =>
    simp only [natI, List.map_cons, List.any_cons] at ih ⊢
    rw [ih]
    congr 1
    rw [Bool.eq_iff_iff, beq_iff_eq, beq_iff_eq]
    omega
theorem natI_any2 (s : List Nat) (a : Nat) : (natI s).any ((a : Int) == ·) = s.any (· == a) := by
  rw [← natI_any]
  congr 1
  funext x
  rw [Bool.eq_iff_iff, beq_iff_eq, beq_iff_eq]
  exact eq_comm
end Go.Proofs.YtihdeagknggeiaaDoor
