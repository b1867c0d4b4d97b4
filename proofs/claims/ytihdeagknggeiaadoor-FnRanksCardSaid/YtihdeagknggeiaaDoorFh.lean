import Derived.Test.YtihdeagknggeiaaDoorFg
set_option autoImplicit false
set_option linter.unusedSimpArgs false
set_option linter.unusedVariables false
namespace Go.Proofs.YtihdeagknggeiaaDoor
open Go.Den
/-- Rules: pairs of words. -/
def ruleC (r : List Int × List Int) : List Cell := [ints r.1, ints r.2]
def rulesC (rs : List (List Int × List Int)) : Cell := .sl false 2 rs.length (rs.flatMap ruleC)
theorem rules_length (rs : List (List Int × List Int)) : (rs.flatMap ruleC).length = 2 * rs.length := by
  induction rs with
  | nil => rfl
  | cons r rs ih => simp [ruleC, ih]; omega
theorem rules_drop {rs : List (List Int × List Int)} {i : Nat} (hi : i < rs.length) : (rs.flatMap ruleC).drop (i * 2) = ints rs[i].1 :: ints rs[i].2 :: (rs.drop (i + 1)).flatMap ruleC := by
  induction rs generalizing i with
  | nil => simp at hi
  | cons r rs ih =>
    cases i with
    | zero => rfl
    | succ i =>
      have := ih (i := i) (by simpa using hi)
      simp only [List.flatMap_cons, ruleC, List.cons_append, List.nil_append, List.getElem_cons_succ, List.drop_succ_cons] at this ⊢
      rw [show (i + 1) * 2 = i * 2 + 1 + 1 by omega]
      simpa using this
theorem pick_rule {rs : List (List Int × List Int)} {n : Int} {i : Nat} (hn : n = i) (hi : i < rs.length) : pickN 2 ((rs.flatMap ruleC).drop (n.toNat * 2)) = some [ints rs[i].1, ints rs[i].2] := by
  subst hn
  rw [Int.toNat_natCast, rules_drop hi]
  rfl
theorem pick_ruleL {rs : List (List Int × List Int)} {n : Int} {i : Nat} (hn : n = i) (hi : i < rs.length) : pickN 1 (((rs.flatMap ruleC).drop (n.toNat * 2)).drop 0) = some [ints rs[i].1] := by
  subst hn
  rw [Int.toNat_natCast, rules_drop hi]
  rfl
theorem pick_ruleR {rs : List (List Int × List Int)} {n : Int} {i : Nat} (hn : n = i) (hi : i < rs.length) : pickN 1 (((rs.flatMap ruleC).drop (n.toNat * 2)).drop 1) = some [ints rs[i].2] := by
  subst hn
  rw [Int.toNat_natCast, rules_drop hi]
  rfl
/-- Is it a word over n letters? -/
def wordN (n : Int) (w : List Int) : Bool := decide (w.length ≤ 24) && w.all fun x => decide (0 ≤ x ∧ x ≤ n - 1)
def ruleOk (n : Int) (r : List Int × List Int) : Bool := wordN n r.1 && wordN n r.2 && !decide ((r.2.length : Int) ≥ r.1.length)
def sysOk (n : Int) (rs : List (List Int × List Int)) : Bool := decide (rs.length ≤ 12) && rs.all (ruleOk n)
set_option maxHeartbeats 16000000 in
set_option maxRecDepth 100000 in
theorem isWord_ret (n : Int) (d w : List Int) (hx : w.length < 2 ^ 62) (h0 : 0 ≤ n) (hn : n < 2 ^ 62) : Ret Tryd.prog G0 114 [⟨.ro, .agg [i64 n, ints d]⟩, ⟨.ro, .one (ints w)⟩] ⟨.one (.c (.bool (wordN n w))), []⟩ := by
  (refine ret_of_den (E := en 15 [] (fun _ => []) (fun _ => [])) tt_ok mixed Tryd.func114 rfl rfl rfl rfl ?_; refine ⟨by simp, ?_⟩)
  have hw : IntKind.i64.wrap (n - 1) = n - 1 := wrap_i64 (by omega) (by omega)
  repeat' (first | ((first | refine opt_some (getC_rows rfl rfl (by omega)) ?_ | refine opt_some (by dsimp only; exact getC_lent rfl rfl (by omega)) ?_ | refine opt_some rfl ?_ | refine ⟨_, (by simp only [nf, nl, nm, en, ints, setC_setC, Nat.reduceAdd, Nat.reduceMul, hw]; exact rfl), ?_⟩ | refine ⟨_, pickT rfl, ?_⟩ | refine ⟨_, rfl, ?_⟩ | refine iteP_true rfl ?_ | refine iteP_false rfl ?_ | refine iteP_true ‹_› ?_ | refine iteP_false ‹_› ?_ | refine andK ?_ | refine andA ?_ | refine andT ?_); conv => whnf) | (refine iteP_intro (fun hb => ?_) (fun hb => ?_) <;> (conv => whnf)))
  · (refine ⟨_, allIn_ret w _ _ hx, ?_⟩; conv => whnf)
    repeat' (first | ((first | refine opt_some (getC_rows rfl rfl (by omega)) ?_ | refine opt_some (by dsimp only; exact getC_lent rfl rfl (by omega)) ?_ | refine opt_some rfl ?_ | refine ⟨_, (by simp only [nf, nl, nm, en, ints, setC_setC, Nat.reduceAdd, Nat.reduceMul]; exact rfl), ?_⟩ | refine ⟨_, pickT rfl, ?_⟩ | refine ⟨_, rfl, ?_⟩ | refine iteP_true rfl ?_ | refine iteP_false rfl ?_ | refine iteP_true ‹_› ?_ | refine iteP_false ‹_› ?_ | refine andK ?_ | refine andA ?_ | refine andT ?_); conv => whnf) | (refine iteP_intro (fun hb => ?_) (fun hb => ?_) <;> (conv => whnf)))
    refine endB ?_
    unfold wordN
    rw [decide_eq_true (by have := leT hb; omega)]
    rfl
  · refine endB ?_
    unfold wordN
    rw [decide_eq_false (by have := leF hb; omega)]
    rfl
end Go.Proofs.YtihdeagknggeiaaDoor
