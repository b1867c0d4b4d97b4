import Derived.Test.YtihdeagknggeiaaDoorFzd
set_option autoImplicit false
set_option linter.unusedSimpArgs false
set_option linter.unusedVariables false
namespace Go.Proofs.YtihdeagknggeiaaDoor
open Go.Den
set_option maxHeartbeats 16000000 in
set_option maxRecDepth 100000 in
theorem FnExactCountOfContent_gen_ret (n0 : Int) (d0 : List Int) (x1 : List Int) (y0 : Int) (y1 : Int) (hd0 : d0.length < 2 ^ 62) (hx1 : x1.length < 2 ^ 62) 
    (hS : Ret Tryd.prog G0 13 [⟨.ro, .agg [i64 n0, ints d0]⟩, ⟨.ro, .one (ints x1)⟩] ⟨.tup [(false, [i64 y0]), (false, [i64 y1])], []⟩) (hI : Ret Tryd.prog G0 16 [⟨.ro, .agg [i64 n0, ints d0]⟩, ⟨.ro, .one (ints x1)⟩] ⟨.tup [(false, [i64 y0]), (false, [i64 y1])], []⟩) :
    Ret Tryd.prog G0 3 [⟨.ro, .agg [i64 n0, ints d0]⟩, ⟨.ro, .one (ints x1)⟩] ⟨.one (.c (.bool true)), []⟩ := by
  have ea1 : decide (x1 = x1) = true := by simp
  have er0 : (y0 != y0) = false := by simp
  have er1 : (y1 != y1) = false := by simp
  (refine ret_of_den (E := en 56 [] (fun _ => []) (fun _ => [])) tt_ok mixed Tryd.func3 rfl rfl rfl rfl ?_; refine ⟨by simp, ?_⟩)
  repeat' (first | ((first | refine opt_some (getC_rows rfl rfl (by omega)) ?_ | refine opt_some (by dsimp only; exact getC_lent rfl rfl (by omega)) ?_ | refine opt_some rfl ?_ | refine ⟨_, (by simp only [nf, nl, nm, en, ints, setC_setC, Nat.reduceAdd, Nat.reduceMul]; exact rfl), ?_⟩ | refine ⟨_, pickT rfl, ?_⟩ | refine ⟨_, rfl, ?_⟩ | refine iteP_true rfl ?_ | refine iteP_false rfl ?_ | refine iteP_true ‹_› ?_ | refine iteP_false ‹_› ?_ | refine andK ?_ | refine andA ?_ | refine andT ?_); conv => whnf) | (refine iteP_intro (fun hb => ?_) (fun hb => ?_) <;> (conv => whnf)))
  · rfl
  have hl1 : x1.length ≤ 2 ^ 20 := by have := leF hb; omega
  (refine ⟨_, szAlpha_ret d0 n0 (1048576) (by omega) (by omega) hd0, ?_⟩; conv => whnf)
  repeat' (first | ((first | refine opt_some (getC_rows rfl rfl (by omega)) ?_ | refine opt_some (by dsimp only; exact getC_lent rfl rfl (by omega)) ?_ | refine opt_some rfl ?_ | refine ⟨_, (by simp only [nf, nl, nm, en, ints, setC_setC, Nat.reduceAdd, Nat.reduceMul]; exact rfl), ?_⟩ | refine ⟨_, pickT rfl, ?_⟩ | refine ⟨_, rfl, ?_⟩ | refine iteP_true rfl ?_ | refine iteP_false rfl ?_ | refine iteP_true ‹_› ?_ | refine iteP_false ‹_› ?_ | refine andK ?_ | refine andA ?_ | refine andT ?_); conv => whnf) | (refine iteP_intro (fun hb => ?_) (fun hb => ?_) <;> (conv => whnf)))
  · rfl
  have hz0 := szI_nn (leF hb)
  have hl0 : d0.length ≤ 2 ^ 20 := by omega
  (refine ⟨_, toAlpha_ret d0 n0 hl0, ?_⟩; conv => whnf)
  repeat' (first | ((first | refine opt_some (getC_rows rfl rfl (by omega)) ?_ | refine opt_some (by dsimp only; exact getC_lent rfl rfl (by omega)) ?_ | refine opt_some rfl ?_ | refine ⟨_, (by simp only [nf, nl, nm, en, ints, setC_setC, Nat.reduceAdd, Nat.reduceMul]; exact rfl), ?_⟩ | refine ⟨_, pickT rfl, ?_⟩ | refine ⟨_, rfl, ?_⟩ | refine iteP_true rfl ?_ | refine iteP_false rfl ?_ | refine iteP_true ‹_› ?_ | refine iteP_false ‹_› ?_ | refine andK ?_ | refine andA ?_ | refine andT ?_); conv => whnf) | (refine iteP_intro (fun hb => ?_) (fun hb => ?_) <;> (conv => whnf)))
  (refine ⟨_, toInt_ret x1 hl1, ?_⟩; conv => whnf)
  repeat' (first | ((first | refine opt_some (getC_rows rfl rfl (by omega)) ?_ | refine opt_some (by dsimp only; exact getC_lent rfl rfl (by omega)) ?_ | refine opt_some rfl ?_ | refine ⟨_, (by simp only [nf, nl, nm, en, ints, setC_setC, Nat.reduceAdd, Nat.reduceMul]; exact rfl), ?_⟩ | refine ⟨_, pickT rfl, ?_⟩ | refine ⟨_, rfl, ?_⟩ | refine iteP_true rfl ?_ | refine iteP_false rfl ?_ | refine iteP_true ‹_› ?_ | refine iteP_false ‹_› ?_ | refine andK ?_ | refine andA ?_ | refine andT ?_); conv => whnf) | (refine iteP_intro (fun hb => ?_) (fun hb => ?_) <;> (conv => whnf)))
  (refine ⟨_, hS, ?_⟩; conv => whnf)
  repeat' (first | ((first | refine opt_some (getC_rows rfl rfl (by omega)) ?_ | refine opt_some (by dsimp only; exact getC_lent rfl rfl (by omega)) ?_ | refine opt_some rfl ?_ | refine ⟨_, (by simp only [nf, nl, nm, en, ints, setC_setC, Nat.reduceAdd, Nat.reduceMul]; exact rfl), ?_⟩ | refine ⟨_, pickT rfl, ?_⟩ | refine ⟨_, rfl, ?_⟩ | refine iteP_true rfl ?_ | refine iteP_false rfl ?_ | refine iteP_true ‹_› ?_ | refine iteP_false ‹_› ?_ | refine andK ?_ | refine andA ?_ | refine andT ?_); conv => whnf) | (refine iteP_intro (fun hb => ?_) (fun hb => ?_) <;> (conv => whnf)))
  (refine ⟨_, toAlpha_ret d0 n0 hl0, ?_⟩; conv => whnf)
  repeat' (first | ((first | refine opt_some (getC_rows rfl rfl (by omega)) ?_ | refine opt_some (by dsimp only; exact getC_lent rfl rfl (by omega)) ?_ | refine opt_some rfl ?_ | refine ⟨_, (by simp only [nf, nl, nm, en, ints, setC_setC, Nat.reduceAdd, Nat.reduceMul]; exact rfl), ?_⟩ | refine ⟨_, pickT rfl, ?_⟩ | refine ⟨_, rfl, ?_⟩ | refine iteP_true rfl ?_ | refine iteP_false rfl ?_ | refine iteP_true ‹_› ?_ | refine iteP_false ‹_› ?_ | refine andK ?_ | refine andA ?_ | refine andT ?_); conv => whnf) | (refine iteP_intro (fun hb => ?_) (fun hb => ?_) <;> (conv => whnf)))
  (refine ⟨_, toInt_ret x1 hl1, ?_⟩; conv => whnf)
  repeat' (first | ((first | refine opt_some (getC_rows rfl rfl (by omega)) ?_ | refine opt_some (by dsimp only; exact getC_lent rfl rfl (by omega)) ?_ | refine opt_some rfl ?_ | refine ⟨_, (by simp only [nf, nl, nm, en, ints, setC_setC, Nat.reduceAdd, Nat.reduceMul]; exact rfl), ?_⟩ | refine ⟨_, pickT rfl, ?_⟩ | refine ⟨_, rfl, ?_⟩ | refine iteP_true rfl ?_ | refine iteP_false rfl ?_ | refine iteP_true ‹_› ?_ | refine iteP_false ‹_› ?_ | refine andK ?_ | refine andA ?_ | refine andT ?_); conv => whnf) | (refine iteP_intro (fun hb => ?_) (fun hb => ?_) <;> (conv => whnf)))
  (refine ⟨_, hI, ?_⟩; conv => whnf)
  repeat' (first | ((first | refine opt_some (getC_rows rfl rfl (by omega)) ?_ | refine opt_some (by dsimp only; exact getC_lent rfl rfl (by omega)) ?_ | refine opt_some rfl ?_ | refine ⟨_, (by simp only [nf, nl, nm, en, ints, setC_setC, Nat.reduceAdd, Nat.reduceMul]; exact rfl), ?_⟩ | refine ⟨_, pickT rfl, ?_⟩ | refine ⟨_, rfl, ?_⟩ | refine iteP_true rfl ?_ | refine iteP_false rfl ?_ | refine iteP_true ‹_› ?_ | refine iteP_false ‹_› ?_ | refine andK ?_ | refine andA ?_ | refine andT ?_); conv => whnf) | (refine iteP_intro (fun hb => ?_) (fun hb => ?_) <;> (conv => whnf)))
  (refine ⟨_, toAlpha_ret d0 n0 hl0, ?_⟩; conv => whnf)
  repeat' (first | ((first | refine opt_some (getC_rows rfl rfl (by omega)) ?_ | refine opt_some (by dsimp only; exact getC_lent rfl rfl (by omega)) ?_ | refine opt_some rfl ?_ | refine ⟨_, (by simp only [nf, nl, nm, en, ints, setC_setC, Nat.reduceAdd, Nat.reduceMul]; exact rfl), ?_⟩ | refine ⟨_, pickT rfl, ?_⟩ | refine ⟨_, rfl, ?_⟩ | refine iteP_true rfl ?_ | refine iteP_false rfl ?_ | refine iteP_true ‹_› ?_ | refine iteP_false ‹_› ?_ | refine andK ?_ | refine andA ?_ | refine andT ?_); conv => whnf) | (refine iteP_intro (fun hb => ?_) (fun hb => ?_) <;> (conv => whnf)))
  (refine ⟨_, eqAlpha_ret d0 n0 hd0, ?_⟩; conv => whnf)
  repeat' (first | ((first | refine opt_some (getC_rows rfl rfl (by omega)) ?_ | refine opt_some (by dsimp only; exact getC_lent rfl rfl (by omega)) ?_ | refine opt_some rfl ?_ | refine ⟨_, (by simp only [nf, nl, nm, en, ints, setC_setC, Nat.reduceAdd, Nat.reduceMul]; exact rfl), ?_⟩ | refine ⟨_, pickT rfl, ?_⟩ | refine ⟨_, rfl, ?_⟩ | refine iteP_true rfl ?_ | refine iteP_false rfl ?_ | refine iteP_true ‹_› ?_ | refine iteP_false ‹_› ?_ | refine andK ?_ | refine andA ?_ | refine andT ?_); conv => whnf) | (refine iteP_intro (fun hb => ?_) (fun hb => ?_) <;> (conv => whnf)))
  (refine ⟨_, toInt_ret x1 hl1, ?_⟩; conv => whnf)
  repeat' (first | ((first | refine opt_some (getC_rows rfl rfl (by omega)) ?_ | refine opt_some (by dsimp only; exact getC_lent rfl rfl (by omega)) ?_ | refine opt_some rfl ?_ | refine ⟨_, (by simp only [nf, nl, nm, en, ints, setC_setC, Nat.reduceAdd, Nat.reduceMul]; exact rfl), ?_⟩ | refine ⟨_, pickT rfl, ?_⟩ | refine ⟨_, rfl, ?_⟩ | refine iteP_true rfl ?_ | refine iteP_false rfl ?_ | refine iteP_true ‹_› ?_ | refine iteP_false ‹_› ?_ | refine andK ?_ | refine andA ?_ | refine andT ?_); conv => whnf) | (refine iteP_intro (fun hb => ?_) (fun hb => ?_) <;> (conv => whnf)))
  (refine ⟨_, eq_ret x1 x1 hx1, ?_⟩; conv => whnf)
  repeat' (first | ((first | refine opt_some (getC_rows rfl rfl (by omega)) ?_ | refine opt_some (by dsimp only; exact getC_lent rfl rfl (by omega)) ?_ | refine opt_some rfl ?_ | refine ⟨_, (by simp only [nf, nl, nm, en, ints, setC_setC, Nat.reduceAdd, Nat.reduceMul]; exact rfl), ?_⟩ | refine ⟨_, pickT rfl, ?_⟩ | refine ⟨_, rfl, ?_⟩ | refine iteP_true rfl ?_ | refine iteP_false rfl ?_ | refine iteP_true ‹_› ?_ | refine iteP_false ‹_› ?_ | refine andK ?_ | refine andA ?_ | refine andT ?_); conv => whnf) | (refine iteP_intro (fun hb => ?_) (fun hb => ?_) <;> (conv => whnf)))
  rfl
set_option maxHeartbeats 16000000 in
set_option maxRecDepth 100000 in
theorem lawCo_ret (n : Int) (ds xs : List Int) (hd : ds.length < 2 ^ 62) (hx : xs.length < 2 ^ 62) : Ret Tryd.prog G0 3 [⟨.ro, .agg [i64 n, ints ds]⟩, ⟨.ro, .one (ints xs)⟩] ⟨.one (.c (.bool true)), []⟩ :=
  FnExactCountOfContent_gen_ret n ds xs _ _ hd hx (coS_ret n ds xs hd hx) (coI_ret n ds xs hd hx)
end Go.Proofs.YtihdeagknggeiaaDoor
