import Derived.Test.YtihdeagknggeiaaDoorFf
set_option autoImplicit false
set_option linter.unusedSimpArgs false
set_option linter.unusedVariables false
namespace Go.Proofs.YtihdeagknggeiaaDoor
open Go.Den
/-- The code for an alphabet and words. -/
def wcode (a ok : Bool) : Int := if a then (if ok then 0 else 2) else 1
abbrev wordsC (ws : List (List Int)) : Cell := .sl false 1 ws.length (ws.map ints)
theorem alphaOk_n {n : Int} {ds : List Int} (h : alphaOk n ds = true) : 0 ≤ n ∧ n ≤ 8 ∧ (ds.length : Int) = n := by
  unfold alphaOk at h
  simp only [Bool.and_eq_true, decide_eq_true_eq] at h
  exact ⟨h.1.1.1.1, h.1.1.1.2, h.1.1.2⟩
set_option maxHeartbeats 4000000 in
set_option maxRecDepth 100000 in
theorem markAlpha_ret (n k : Int) (ds : List Int) (hd : ds.length < 2 ^ 30) (h0 : 0 ≤ k) (hk : k < 2 ^ 31) : Ret Tryd.prog G0 21 [⟨.mu, .agg [i64 n, ints ds]⟩, ⟨.ro, .one (i64 k)⟩] ⟨.one (i64 (k + ds.length)), [.agg [i64 n, .sl false 1 ds.length ((marks k ds.length).map i64)]]⟩ := by
  (refine ret_of_den (E := en 10 [] (fun _ => []) (fun _ => [])) tt_ok mixed Tryd.func21 rfl rfl rfl rfl ?_; refine ⟨by simp, ?_⟩)
  repeat' (first | ((first | refine opt_some (getC_rows rfl rfl (by omega)) ?_ | refine opt_some (by dsimp only; exact getC_lent rfl rfl (by omega)) ?_ | refine opt_some rfl ?_ | refine ⟨_, (by simp only [nf, nl, nm, en, ints, setC_setC, Nat.reduceAdd, Nat.reduceMul]; exact rfl), ?_⟩ | refine ⟨_, pickT rfl, ?_⟩ | refine ⟨_, rfl, ?_⟩ | refine iteP_true rfl ?_ | refine iteP_false rfl ?_ | refine iteP_true ‹_› ?_ | refine iteP_false ‹_› ?_ | refine andK ?_ | refine andA ?_ | refine andT ?_); conv => whnf) | (refine iteP_intro (fun hb => ?_) (fun hb => ?_) <;> (conv => whnf)))
  (refine ⟨_, mark_ret ds k hd h0 hk, ?_⟩; conv => whnf)
  repeat' (first | ((first | refine opt_some (getC_rows rfl rfl (by omega)) ?_ | refine opt_some (by dsimp only; exact getC_lent rfl rfl (by omega)) ?_ | refine opt_some rfl ?_ | refine ⟨_, (by simp only [nf, nl, nm, en, ints, setC_setC, Nat.reduceAdd, Nat.reduceMul]; exact rfl), ?_⟩ | refine ⟨_, pickT rfl, ?_⟩ | refine ⟨_, rfl, ?_⟩ | refine iteP_true rfl ?_ | refine iteP_false rfl ?_ | refine iteP_true ‹_› ?_ | refine iteP_false ‹_› ?_ | refine andK ?_ | refine andA ?_ | refine andT ?_); conv => whnf) | (refine iteP_intro (fun hb => ?_) (fun hb => ?_) <;> (conv => whnf)))
  rfl
end Go.Proofs.YtihdeagknggeiaaDoor
