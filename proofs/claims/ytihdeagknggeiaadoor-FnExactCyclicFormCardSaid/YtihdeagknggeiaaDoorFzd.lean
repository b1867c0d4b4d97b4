import Derived.Test.YtihdeagknggeiaaDoorFzc
set_option autoImplicit false
set_option linter.unusedSimpArgs false
set_option linter.unusedVariables false
namespace Go.Proofs.YtihdeagknggeiaaDoor
open Go.Den
theorem cjI_of (ms w : List Nat) (hA : Alpha ms) (hw : Wd ms w) : CjG ms w.length ((pcW ms w).map (·.1)) := by
  rw [pcW_fst]
  exact cjW_all hA hw
set_option maxHeartbeats 4000000 in
set_option maxRecDepth 100000 in
theorem conjugates_ret (ms w : List Nat) (hA : Alpha ms) (hl : ms.length ≤ 8) (hw : Wd ms w) (hx : w.length ≤ 24) : Ret Tryd.prog G0 121 [⟨.ro, .one (ints (natI ms))⟩, ⟨.ro, .one (ints (natI w))⟩] ⟨.one (.sl false 2 (pcW ms w).length (tP (pcW ms w))), []⟩ := by
  obtain ⟨r, ⟨ps, rfl, rfl, -, -⟩, h⟩ := conjugates_ex ms w hA hl hw hx
  exact h
/-- The code of a search among conjugates. -/
def chkC (n : Int) (ds xs ys : List Int) : Int := if alphaOk n ds then (if wordN n xs && wordN n ys then (if 1000 < (pcW (ds.map Int.toNat) (xs.map Int.toNat)).length then 3 else 0) else 2) else 1
set_option maxHeartbeats 4000000 in
set_option maxRecDepth 100000 in
theorem chkBad_ret (n : Int) (ds xs ys : List Int) (hd : ds.length < 2 ^ 62) (hx : xs.length < 2 ^ 62) (hy : ys.length < 2 ^ 62) (h0 : chkC n ds xs ys ≠ 0) : Ret Tryd.prog G0 82 [⟨.ro, .agg [i64 n, ints ds]⟩, ⟨.ro, .one (ints xs)⟩, ⟨.ro, .one (rowsI [ys])⟩] ⟨.tup [(false, [nilS]), (false, [i64 (chkC n ds xs ys)])], []⟩ := by
  have hcw := checkWords_ret n ds [xs, ys] hd (by simp) (by simp; omega)
  simp only [List.all_cons, List.all_nil, Bool.and_true] at hcw
  unfold rowsI at *
  cases h1 : alphaOk n ds with
  | false =>
    have e : chkC n ds xs ys = 1 := by unfold chkC; rw [if_neg (by rw [h1]; simp)]
    rw [h1, show wcode false (wordN n xs && wordN n ys) = 1 from rfl] at hcw
    rw [e]
    (refine ret_of_den (E := en 27 [] (fun _ => []) (fun _ => [])) tt_ok mixed Tryd.func82 rfl rfl rfl rfl ?_; refine ⟨by simp, ?_⟩)
    repeat' (first | ((first | refine opt_some (getC_rows rfl rfl (by omega)) ?_ | refine opt_some (by dsimp only; exact getC_lent rfl rfl (by omega)) ?_ | refine opt_some rfl ?_ | refine ⟨_, (by simp only [nf, nl, nm, en, ints, setC_setC, Nat.reduceAdd, Nat.reduceMul]; exact rfl), ?_⟩ | refine ⟨_, pickT rfl, ?_⟩ | refine ⟨_, rfl, ?_⟩ | refine iteP_true rfl ?_ | refine iteP_false rfl ?_ | refine iteP_true ‹_› ?_ | refine iteP_false ‹_› ?_ | refine andK ?_ | refine andA ?_ | refine andT ?_); conv => whnf) | (refine iteP_intro (fun hb => ?_) (fun hb => ?_) <;> (conv => whnf)))
    (refine ⟨_, hcw, ?_⟩; conv => whnf)
    repeat' (first | ((first | refine opt_some (getC_rows rfl rfl (by omega)) ?_ | refine opt_some (by dsimp only; exact getC_lent rfl rfl (by omega)) ?_ | refine opt_some rfl ?_ | refine ⟨_, (by simp only [nf, nl, nm, en, ints, setC_setC, Nat.reduceAdd, Nat.reduceMul]; exact rfl), ?_⟩ | refine ⟨_, pickT rfl, ?_⟩ | refine ⟨_, rfl, ?_⟩ | refine iteP_true rfl ?_ | refine iteP_false rfl ?_ | refine iteP_true ‹_› ?_ | refine iteP_false ‹_› ?_ | refine andK ?_ | refine andA ?_ | refine andT ?_); conv => whnf) | (refine iteP_intro (fun hb => ?_) (fun hb => ?_) <;> (conv => whnf)))
    rfl
  | true =>
    cases h2 : (wordN n xs && wordN n ys) with
    | false =>
      have e : chkC n ds xs ys = 2 := by unfold chkC; rw [if_pos h1, if_neg (by rw [h2]; simp)]
      rw [h1, h2, show wcode true false = 2 from rfl] at hcw
      rw [e]
      (refine ret_of_den (E := en 27 [] (fun _ => []) (fun _ => [])) tt_ok mixed Tryd.func82 rfl rfl rfl rfl ?_; refine ⟨by simp, ?_⟩)
      repeat' (first | ((first | refine opt_some (getC_rows rfl rfl (by omega)) ?_ | refine opt_some (by dsimp only; exact getC_lent rfl rfl (by omega)) ?_ | refine opt_some rfl ?_ | refine ⟨_, (by simp only [nf, nl, nm, en, ints, setC_setC, Nat.reduceAdd, Nat.reduceMul]; exact rfl), ?_⟩ | refine ⟨_, pickT rfl, ?_⟩ | refine ⟨_, rfl, ?_⟩ | refine iteP_true rfl ?_ | refine iteP_false rfl ?_ | refine iteP_true ‹_› ?_ | refine iteP_false ‹_› ?_ | refine andK ?_ | refine andA ?_ | refine andT ?_); conv => whnf) | (refine iteP_intro (fun hb => ?_) (fun hb => ?_) <;> (conv => whnf)))
      (refine ⟨_, hcw, ?_⟩; conv => whnf)
      repeat' (first | ((first | refine opt_some (getC_rows rfl rfl (by omega)) ?_ | refine opt_some (by dsimp only; exact getC_lent rfl rfl (by omega)) ?_ | refine opt_some rfl ?_ | refine ⟨_, (by simp only [nf, nl, nm, en, ints, setC_setC, Nat.reduceAdd, Nat.reduceMul]; exact rfl), ?_⟩ | refine ⟨_, pickT rfl, ?_⟩ | refine ⟨_, rfl, ?_⟩ | refine iteP_true rfl ?_ | refine iteP_false rfl ?_ | refine iteP_true ‹_› ?_ | refine iteP_false ‹_› ?_ | refine andK ?_ | refine andA ?_ | refine andT ?_); conv => whnf) | (refine iteP_intro (fun hb => ?_) (fun hb => ?_) <;> (conv => whnf)))
      rfl
    | true =>
      rw [h1, h2, show wcode true true = 0 from rfl] at hcw
      have h3 := h2
      rw [Bool.and_eq_true] at h3
      obtain ⟨ms, e1, rfl, rfl, hl, hA⟩ := alpha_ok h1
      obtain ⟨w, e2, rfl, hwl, hwc⟩ := word_nat h3.1
      have hwd := word_wd hwc
      have e : chkC ms.length (natI ms) (natI w) ys = if 1000 < (pcW ms w).length then 3 else 0 := by unfold chkC; rw [if_pos h1, if_pos h2, e1, e2]
      rw [e] at h0 ⊢
      by_cases hb : 1000 < (pcW ms w).length
      · rw [if_pos hb]
        have hC := conjugates_ret ms w hA hl hwd hwl
        have hti := ties_ret ms.length (natI ms)
        (refine ret_of_den (E := en 27 [] (fun _ => []) (fun _ => [])) tt_ok mixed Tryd.func82 rfl rfl rfl rfl ?_; refine ⟨by simp, ?_⟩)
        repeat' (first | ((first | refine opt_some (getC_rows rfl rfl (by omega)) ?_ | refine opt_some (by dsimp only; exact getC_lent rfl rfl (by omega)) ?_ | refine opt_some rfl ?_ | refine ⟨_, (by simp only [nf, nl, nm, en, ints, setC_setC, Nat.reduceAdd, Nat.reduceMul]; exact rfl), ?_⟩ | refine ⟨_, pickT rfl, ?_⟩ | refine ⟨_, rfl, ?_⟩ | refine iteP_true rfl ?_ | refine iteP_false rfl ?_ | refine iteP_true ‹_› ?_ | refine iteP_false ‹_› ?_ | refine andK ?_ | refine andA ?_ | refine andT ?_); conv => whnf) | (refine iteP_intro (fun hb => ?_) (fun hb => ?_) <;> (conv => whnf)))
        (refine ⟨_, hcw, ?_⟩; conv => whnf)
        repeat' (first | ((first | refine opt_some (getC_rows rfl rfl (by omega)) ?_ | refine opt_some (by dsimp only; exact getC_lent rfl rfl (by omega)) ?_ | refine opt_some rfl ?_ | refine ⟨_, (by simp only [nf, nl, nm, en, ints, setC_setC, Nat.reduceAdd, Nat.reduceMul]; exact rfl), ?_⟩ | refine ⟨_, pickT rfl, ?_⟩ | refine ⟨_, rfl, ?_⟩ | refine iteP_true rfl ?_ | refine iteP_false rfl ?_ | refine iteP_true ‹_› ?_ | refine iteP_false ‹_› ?_ | refine andK ?_ | refine andA ?_ | refine andT ?_); conv => whnf) | (refine iteP_intro (fun hb => ?_) (fun hb => ?_) <;> (conv => whnf)))
        (refine ⟨_, hti, ?_⟩; conv => whnf)
        repeat' (first | ((first | refine opt_some (getC_rows rfl rfl (by omega)) ?_ | refine opt_some (by dsimp only; exact getC_lent rfl rfl (by omega)) ?_ | refine opt_some rfl ?_ | refine ⟨_, (by simp only [nf, nl, nm, en, ints, setC_setC, Nat.reduceAdd, Nat.reduceMul]; exact rfl), ?_⟩ | refine ⟨_, pickT rfl, ?_⟩ | refine ⟨_, rfl, ?_⟩ | refine iteP_true rfl ?_ | refine iteP_false rfl ?_ | refine iteP_true ‹_› ?_ | refine iteP_false ‹_› ?_ | refine andK ?_ | refine andA ?_ | refine andT ?_); conv => whnf) | (refine iteP_intro (fun hb => ?_) (fun hb => ?_) <;> (conv => whnf)))
        (refine ⟨_, hC, ?_⟩; conv => whnf)
        repeat' (first | ((first | refine opt_some (getC_rows rfl rfl (by omega)) ?_ | refine opt_some (by dsimp only; exact getC_lent rfl rfl (by omega)) ?_ | refine opt_some rfl ?_ | refine ⟨_, (by simp only [nf, nl, nm, en, ints, setC_setC, Nat.reduceAdd, Nat.reduceMul]; exact rfl), ?_⟩ | refine ⟨_, pickT rfl, ?_⟩ | refine ⟨_, rfl, ?_⟩ | refine iteP_true rfl ?_ | refine iteP_false rfl ?_ | refine iteP_true ‹_› ?_ | refine iteP_false ‹_› ?_ | refine andK ?_ | refine andA ?_ | refine andT ?_); conv => whnf) | (refine iteP_intro (fun hb => ?_) (fun hb => ?_) <;> (conv => whnf)))
        · rfl
        · exact absurd (leF ‹_›) (by omega)
      · rw [if_neg hb] at h0
        exact absurd rfl h0
set_option maxHeartbeats 4000000 in
set_option maxRecDepth 100000 in
theorem chkGood_ret (ms w v : List Nat) (hl : ms.length ≤ 8) (hA : Alpha ms) (hok : alphaOk ms.length (natI ms) = true) (hw : Wd ms w) (hv : Wd ms v) (hx : w.length ≤ 24) (hy : v.length ≤ 24) (hs : (pcW ms w).length ≤ 1000) : Ret Tryd.prog G0 82 [⟨.ro, .agg [i64 ms.length, ints (natI ms)]⟩, ⟨.ro, .one (ints (natI w))⟩, ⟨.ro, .one (rowsI [natI v])⟩] ⟨.tup [(false, [.sl false 2 (pcW ms w).length (tP (pcW ms w))]), (false, [i64 0])], []⟩ := by
  have hml := natI_length ms
  have hwl := natI_length w
  have hvl := natI_length v
  have hcw := checkWords_ret ms.length (natI ms) [natI w, natI v] (by omega) (by simp) (by simp; omega)
  rw [hok, wcode_t] at hcw
  simp only [List.all_cons, List.all_nil, wordN_of hw hx, wordN_of hv hy, Bool.and_true] at hcw
  have hC := conjugates_ret ms w hA hl hw hx
  have hti := ties_ret ms.length (natI ms)
  unfold rowsI at *
  (refine ret_of_den (E := en 27 [] (fun _ => []) (fun _ => [])) tt_ok mixed Tryd.func82 rfl rfl rfl rfl ?_; refine ⟨by simp, ?_⟩)
  repeat' (first | ((first | refine opt_some (getC_rows rfl rfl (by omega)) ?_ | refine opt_some (by dsimp only; exact getC_lent rfl rfl (by omega)) ?_ | refine opt_some rfl ?_ | refine ⟨_, (by simp only [nf, nl, nm, en, ints, setC_setC, Nat.reduceAdd, Nat.reduceMul]; exact rfl), ?_⟩ | refine ⟨_, pickT rfl, ?_⟩ | refine ⟨_, rfl, ?_⟩ | refine iteP_true rfl ?_ | refine iteP_false rfl ?_ | refine iteP_true ‹_› ?_ | refine iteP_false ‹_› ?_ | refine andK ?_ | refine andA ?_ | refine andT ?_); conv => whnf) | (refine iteP_intro (fun hb => ?_) (fun hb => ?_) <;> (conv => whnf)))
  (refine ⟨_, hcw, ?_⟩; conv => whnf)
  repeat' (first | ((first | refine opt_some (getC_rows rfl rfl (by omega)) ?_ | refine opt_some (by dsimp only; exact getC_lent rfl rfl (by omega)) ?_ | refine opt_some rfl ?_ | refine ⟨_, (by simp only [nf, nl, nm, en, ints, setC_setC, Nat.reduceAdd, Nat.reduceMul]; exact rfl), ?_⟩ | refine ⟨_, pickT rfl, ?_⟩ | refine ⟨_, rfl, ?_⟩ | refine iteP_true rfl ?_ | refine iteP_false rfl ?_ | refine iteP_true ‹_› ?_ | refine iteP_false ‹_› ?_ | refine andK ?_ | refine andA ?_ | refine andT ?_); conv => whnf) | (refine iteP_intro (fun hb => ?_) (fun hb => ?_) <;> (conv => whnf)))
  (refine ⟨_, hti, ?_⟩; conv => whnf)
  repeat' (first | ((first | refine opt_some (getC_rows rfl rfl (by omega)) ?_ | refine opt_some (by dsimp only; exact getC_lent rfl rfl (by omega)) ?_ | refine opt_some rfl ?_ | refine ⟨_, (by simp only [nf, nl, nm, en, ints, setC_setC, Nat.reduceAdd, Nat.reduceMul]; exact rfl), ?_⟩ | refine ⟨_, pickT rfl, ?_⟩ | refine ⟨_, rfl, ?_⟩ | refine iteP_true rfl ?_ | refine iteP_false rfl ?_ | refine iteP_true ‹_› ?_ | refine iteP_false ‹_› ?_ | refine andK ?_ | refine andA ?_ | refine andT ?_); conv => whnf) | (refine iteP_intro (fun hb => ?_) (fun hb => ?_) <;> (conv => whnf)))
  (refine ⟨_, hC, ?_⟩; conv => whnf)
  repeat' (first | ((first | refine opt_some (getC_rows rfl rfl (by omega)) ?_ | refine opt_some (by dsimp only; exact getC_lent rfl rfl (by omega)) ?_ | refine opt_some rfl ?_ | refine ⟨_, (by simp only [nf, nl, nm, en, ints, setC_setC, Nat.reduceAdd, Nat.reduceMul]; exact rfl), ?_⟩ | refine ⟨_, pickT rfl, ?_⟩ | refine ⟨_, rfl, ?_⟩ | refine iteP_true rfl ?_ | refine iteP_false rfl ?_ | refine iteP_true ‹_› ?_ | refine iteP_false ‹_› ?_ | refine andK ?_ | refine andA ?_ | refine andT ?_); conv => whnf) | (refine iteP_intro (fun hb => ?_) (fun hb => ?_) <;> (conv => whnf)))
  · exact absurd (leT ‹_›) (by omega)
  · rfl
end Go.Proofs.YtihdeagknggeiaaDoor
