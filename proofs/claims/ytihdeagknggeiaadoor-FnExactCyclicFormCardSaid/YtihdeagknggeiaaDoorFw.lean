import Derived.Test.YtihdeagknggeiaaDoorFv
set_option autoImplicit false
set_option linter.unusedSimpArgs false
set_option linter.unusedVariables false
namespace Go.Proofs.YtihdeagknggeiaaDoor
open Go.Den
set_option maxHeartbeats 4000000 in
set_option maxRecDepth 100000 in
theorem l01Less_ret (u v : List Int) (hu : u.length < 2 ^ 62) (hv : v.length < 2 ^ 62) : Ret Tryd.prog G0 119 [⟨.ro, .one (ints u)⟩, ⟨.ro, .one (ints v)⟩] ⟨.one (.c (.bool (ltR u v))), []⟩ := by
  (refine ret_of_den (E := en 41 [] (fun _ => [(5, 0), (0, 1), (1, 1)]) (fun _ => [])) tt_ok mixed Tryd.func119 rfl rfl rfl rfl ?_; refine ⟨by simp, ?_⟩)
  repeat' (first | ((first | refine opt_some (getC_rows rfl rfl (by omega)) ?_ | refine opt_some (by dsimp only; exact getC_lent rfl rfl (by omega)) ?_ | refine opt_some rfl ?_ | refine ⟨_, (by simp only [nf, nl, nm, en, ints, setC_setC, Nat.reduceAdd, Nat.reduceMul]; exact rfl), ?_⟩ | refine ⟨_, pickT rfl, ?_⟩ | refine ⟨_, rfl, ?_⟩ | refine iteP_true rfl ?_ | refine iteP_false rfl ?_ | refine iteP_true ‹_› ?_ | refine iteP_false ‹_› ?_ | refine andK ?_ | refine andA ?_ | refine andT ?_); conv => whnf) | (refine iteP_intro (fun hb => ?_) (fun hb => ?_) <;> (conv => whnf)))
  refine ⟨fun k vs => ∃ i : Nat, i ≤ u.length ∧ i ≤ v.length ∧ cmpL u v = cmpL (u.drop i) (v.drop i) ∧ vs = [.one (i64 i), .one (.shd (ints u)), .one (.shd (ints v))] ∧ k = u.length - i, rfl, ⟨_, 0, by omega, by omega, rfl, rfl, rfl⟩, ?_⟩
  rintro k vs ⟨i, hi, hib, hc, rfl, rfl⟩
  repeat (first | ((first | refine opt_some (getC_rows rfl rfl (by omega)) ?_ | refine opt_some (by dsimp only; exact getC_lent rfl rfl (by omega)) ?_ | refine opt_some rfl ?_ | refine ⟨_, (by simp only [nf, nl, nm, en, ints, setC_setC, Nat.reduceAdd, Nat.reduceMul]; exact rfl), ?_⟩ | refine ⟨_, pickT rfl, ?_⟩ | refine ⟨_, rfl, ?_⟩ | refine iteP_true rfl ?_ | refine iteP_false rfl ?_ | refine iteP_true ‹_› ?_ | refine iteP_false ‹_› ?_ | refine andK ?_ | refine andA ?_ | refine andT ?_); conv => whnf))
  refine iteP_intro (fun hb => ?_) (fun hb => ?_) <;> (conv => whnf)
  · have hi' : i < u.length := by have := leT hb; omega
    rw [List.drop_eq_getElem_cons hi'] at hc
    repeat (first | ((first | refine opt_some (getC_rows rfl rfl (by omega)) ?_ | refine opt_some (by dsimp only; exact getC_lent rfl rfl (by omega)) ?_ | refine opt_some rfl ?_ | refine ⟨_, (by simp only [nf, nl, nm, en, ints, setC_setC, Nat.reduceAdd, Nat.reduceMul]; exact rfl), ?_⟩ | refine ⟨_, pickT rfl, ?_⟩ | refine ⟨_, rfl, ?_⟩ | refine iteP_true rfl ?_ | refine iteP_false rfl ?_ | refine iteP_true ‹_› ?_ | refine iteP_false ‹_› ?_ | refine andK ?_ | refine andA ?_ | refine andT ?_); conv => whnf))
    refine iteP_intro (fun hb => ?_) (fun hb => ?_) <;> (conv => whnf)
    · have hb2 : i < v.length := by have := leT hb; omega
      rw [List.drop_eq_getElem_cons hb2, cmpL] at hc
      repeat' (first | ((first | refine opt_some (getC_rows rfl rfl (by omega)) ?_ | refine opt_some (by dsimp only; exact getC_lent rfl rfl (by omega)) ?_ | refine opt_some rfl ?_ | refine ⟨_, (by simp only [nf, nl, nm, en, ints, setC_setC, Nat.reduceAdd, Nat.reduceMul]; exact rfl), ?_⟩ | refine ⟨_, pickT rfl, ?_⟩ | refine ⟨_, rfl, ?_⟩ | refine iteP_true rfl ?_ | refine iteP_false rfl ?_ | refine iteP_true ‹_› ?_ | refine iteP_false ‹_› ?_ | refine andK ?_ | refine andA ?_ | refine andT ?_); conv => whnf) | (refine iteP_intro (fun hb => ?_) (fun hb => ?_) <;> (conv => whnf)))
      · have hne : u[i] ≠ v[i] := by simpa using hb
        refine endB ?_
        unfold ltR
        rw [hc]
        by_cases h1 : u[i] < v[i]
        · rw [if_pos h1, decide_eq_true h1]
          rfl
        · rw [if_neg h1, if_pos (by omega), decide_eq_false h1]
          rfl
      · have he : u[i] = v[i] := by simpa using hb
        rw [if_neg (by omega), if_neg (by omega)] at hc
        refine ⟨_, ?_, i + 1, hi', by omega, hc, by rw [wrap_succ (by omega)]; rfl, rfl⟩
        omega
    · have hb2 : v.length ≤ i := by have := leF hb; omega
      rw [List.drop_eq_nil_of_le hb2] at hc
      repeat' (first | ((first | refine opt_some (getC_rows rfl rfl (by omega)) ?_ | refine opt_some (by dsimp only; exact getC_lent rfl rfl (by omega)) ?_ | refine opt_some rfl ?_ | refine ⟨_, (by simp only [nf, nl, nm, en, ints, setC_setC, Nat.reduceAdd, Nat.reduceMul]; exact rfl), ?_⟩ | refine ⟨_, pickT rfl, ?_⟩ | refine ⟨_, rfl, ?_⟩ | refine iteP_true rfl ?_ | refine iteP_false rfl ?_ | refine iteP_true ‹_› ?_ | refine iteP_false ‹_› ?_ | refine andK ?_ | refine andA ?_ | refine andT ?_); conv => whnf) | (refine iteP_intro (fun hb => ?_) (fun hb => ?_) <;> (conv => whnf)))
      refine endB ?_
      unfold ltR
      rw [hc, show decide ((u.length : Int) < v.length) = false from decide_eq_false (by omega)]
      rfl
  · obtain rfl : i = u.length := by have := leF hb; omega
    rw [List.drop_eq_nil_of_le (Nat.le_refl _)] at hc
    repeat' (first | ((first | refine opt_some (getC_rows rfl rfl (by omega)) ?_ | refine opt_some (by dsimp only; exact getC_lent rfl rfl (by omega)) ?_ | refine opt_some rfl ?_ | refine ⟨_, (by simp only [nf, nl, nm, en, ints, setC_setC, Nat.reduceAdd, Nat.reduceMul]; exact rfl), ?_⟩ | refine ⟨_, pickT rfl, ?_⟩ | refine ⟨_, rfl, ?_⟩ | refine iteP_true rfl ?_ | refine iteP_false rfl ?_ | refine iteP_true ‹_› ?_ | refine iteP_false ‹_› ?_ | refine andK ?_ | refine andA ?_ | refine andT ?_); conv => whnf) | (refine iteP_intro (fun hb => ?_) (fun hb => ?_) <;> (conv => whnf)))
    refine endB ?_
    unfold ltR
    rw [hc]
    by_cases h2 : u.length < v.length
    · rw [List.drop_eq_getElem_cons h2, decide_eq_true (by omega)]
      rfl
    · rw [List.drop_eq_nil_of_le (by omega), decide_eq_false (by omega)]
      rfl
/-- A trace turned by one of its first letters. -/
def rotN (ms w : List Nat) (a : Nat) : List Nat := nform ms (w.erase a ++ [a])
theorem rot_wd {ms w : List Nat} {a : Nat} (hw : Wd ms w) (ha : a < ms.length) : Wd ms (w.erase a ++ [a]) := (hw.erase a).append (.cons ha (.nil ms))
theorem rotN_wd {ms w : List Nat} {a : Nat} (hA : Alpha ms) (hw : Wd ms w) (ha : a < ms.length) : Wd ms (rotN ms w a) := nform_wd hA (rot_wd hw ha)
theorem rotN_len {ms w : List Nat} {a : Nat} (hA : Alpha ms) (hw : Wd ms w) (ha : a < ms.length) (h : a ∈ w) : (rotN ms w a).length = w.length := by
  have := List.length_pos_of_mem h
  rw [rotN, nform_length hA (rot_wd hw ha), List.length_append, erase_length h, List.length_singleton]
  omega
set_option maxHeartbeats 4000000 in
set_option maxRecDepth 100000 in
theorem rotated_ret (ms w : List Nat) (a : Nat) (hA : Alpha ms) (hl : ms.length ≤ 16) (hw : Wd ms w) (hx : w.length ≤ 2 ^ 38) (ha : a < ms.length) (h : a ∈ w) : Ret Tryd.prog G0 141 [⟨.ro, .one (ints (natI ms))⟩, ⟨.ro, .one (ints (natI w))⟩, ⟨.ro, .one (i64 a)⟩] ⟨.one (ints (natI (rotN ms w a))), []⟩ := by
  have hwo := without_ret w a (by omega) h
  have hel := erase_length h
  have hnl := natI_length (w.erase a)
  have hN := normal_ret ms (w.erase a ++ [a]) hA hl (rot_wd hw ha) (by rw [List.length_append, List.length_singleton]; omega)
  rw [ints_natI_snoc] at hN
  unfold rotN
  (refine ret_of_den (E := en 15 [] (fun _ => []) (fun _ => [])) tt_ok mixed Tryd.func141 rfl rfl rfl rfl ?_; refine ⟨by simp, ?_⟩)
  repeat' (first | ((first | refine opt_some (getC_rows rfl rfl (by omega)) ?_ | refine opt_some (by dsimp only; exact getC_lent rfl rfl (by omega)) ?_ | refine opt_some rfl ?_ | refine ⟨_, (by simp only [nf, nl, nm, en, ints, setC_setC, Nat.reduceAdd, Nat.reduceMul]; exact rfl), ?_⟩ | refine ⟨_, pickT rfl, ?_⟩ | refine ⟨_, rfl, ?_⟩ | refine iteP_true rfl ?_ | refine iteP_false rfl ?_ | refine iteP_true ‹_› ?_ | refine iteP_false ‹_› ?_ | refine andK ?_ | refine andA ?_ | refine andT ?_); conv => whnf) | (refine iteP_intro (fun hb => ?_) (fun hb => ?_) <;> (conv => whnf)))
  (refine ⟨_, hwo, ?_⟩; conv => whnf)
  repeat' (first | ((first | refine opt_some (getC_rows rfl rfl (by omega)) ?_ | refine opt_some (by dsimp only; exact getC_lent rfl rfl (by omega)) ?_ | refine opt_some rfl ?_ | refine ⟨_, (by simp only [nf, nl, nm, en, ints, setC_setC, Nat.reduceAdd, Nat.reduceMul]; exact rfl), ?_⟩ | refine ⟨_, pickT rfl, ?_⟩ | refine ⟨_, rfl, ?_⟩ | refine iteP_true rfl ?_ | refine iteP_false rfl ?_ | refine iteP_true ‹_› ?_ | refine iteP_false ‹_› ?_ | refine andK ?_ | refine andA ?_ | refine andT ?_); conv => whnf) | (refine iteP_intro (fun hb => ?_) (fun hb => ?_) <;> (conv => whnf)))
  (refine ⟨_, hN, ?_⟩; conv => whnf)
  repeat' (first | ((first | refine opt_some (getC_rows rfl rfl (by omega)) ?_ | refine opt_some (by dsimp only; exact getC_lent rfl rfl (by omega)) ?_ | refine opt_some rfl ?_ | refine ⟨_, (by simp only [nf, nl, nm, en, ints, setC_setC, Nat.reduceAdd, Nat.reduceMul]; exact rfl), ?_⟩ | refine ⟨_, pickT rfl, ?_⟩ | refine ⟨_, rfl, ?_⟩ | refine iteP_true rfl ?_ | refine iteP_false rfl ?_ | refine iteP_true ‹_› ?_ | refine iteP_false ‹_› ?_ | refine andK ?_ | refine andA ?_ | refine andT ?_); conv => whnf) | (refine iteP_intro (fun hb => ?_) (fun hb => ?_) <;> (conv => whnf)))
  rfl
set_option maxHeartbeats 4000000 in
set_option maxRecDepth 100000 in
theorem l07Rotate_ret (ms w : List Nat) (a : Nat) (hA : Alpha ms) (hl : ms.length ≤ 16) (hw : Wd ms w) (hx : w.length ≤ 2 ^ 38) (ha : a < ms.length) : Ret Tryd.prog G0 117 [⟨.ro, .agg [i64 ms.length, ints (natI ms)]⟩, ⟨.ro, .one (ints (natI w))⟩, ⟨.ro, .one (i64 a)⟩] ⟨.tup [(false, [if canF ms a w then ints (natI (rotN ms w a)) else nilS]), (false, [.c (.bool (canF ms a w))])], []⟩ := by
  have hF := l03First_ret ms w a hl hA.lt hw (by omega) (by omega)
  rcases frI_spec (ms := ms) (a := a) w 0 with ⟨hc, i, hi, hf, hs⟩ | ⟨hc, hf⟩
  · rw [show ((0 : Nat) : Int) = 0 from rfl] at hf
    rw [hf, Nat.zero_add] at hF
    have hW := l03Without_ret w i (by omega) hi
    rw [hs] at hW
    have hm := canF_mem hc
    have hel := erase_length hm
    have hnl := natI_length (w.erase a)
    have hN := l03Normal_ret ms (w.erase a ++ [a]) hA hl (rot_wd hw ha) (by rw [List.length_append, List.length_singleton]; omega)
    rw [ints_natI_snoc] at hN
    rw [hc, if_pos rfl]
    unfold rotN
    have h0 : decide ((i : Int) < 0) = false := decide_eq_false (by omega)
    (refine ret_of_den (E := en 23 [] (fun _ => []) (fun _ => [])) tt_ok mixed Tryd.func117 rfl rfl rfl rfl ?_; refine ⟨by simp, ?_⟩)
    repeat' (first | ((first | refine opt_some (getC_rows rfl rfl (by omega)) ?_ | refine opt_some (by dsimp only; exact getC_lent rfl rfl (by omega)) ?_ | refine opt_some rfl ?_ | refine ⟨_, (by simp only [nf, nl, nm, en, ints, setC_setC, Nat.reduceAdd, Nat.reduceMul]; exact rfl), ?_⟩ | refine ⟨_, pickT rfl, ?_⟩ | refine ⟨_, rfl, ?_⟩ | refine iteP_true rfl ?_ | refine iteP_false rfl ?_ | refine iteP_true ‹_› ?_ | refine iteP_false ‹_› ?_ | refine andK ?_ | refine andA ?_ | refine andT ?_); conv => whnf) | (refine iteP_intro (fun hb => ?_) (fun hb => ?_) <;> (conv => whnf)))
    (refine ⟨_, hF, ?_⟩; conv => whnf)
    repeat' (first | ((first | refine opt_some (getC_rows rfl rfl (by omega)) ?_ | refine opt_some (by dsimp only; exact getC_lent rfl rfl (by omega)) ?_ | refine opt_some rfl ?_ | refine ⟨_, (by simp only [nf, nl, nm, en, ints, setC_setC, Nat.reduceAdd, Nat.reduceMul, h0]; exact rfl), ?_⟩ | refine ⟨_, pickT rfl, ?_⟩ | refine ⟨_, rfl, ?_⟩ | refine iteP_true rfl ?_ | refine iteP_false rfl ?_ | refine iteP_true ‹_› ?_ | refine iteP_false ‹_› ?_ | refine andK ?_ | refine andA ?_ | refine andT ?_); conv => whnf) | (refine iteP_intro (fun hb => ?_) (fun hb => ?_) <;> (conv => whnf)))
    (refine ⟨_, hW, ?_⟩; conv => whnf)
    repeat' (first | ((first | refine opt_some (getC_rows rfl rfl (by omega)) ?_ | refine opt_some (by dsimp only; exact getC_lent rfl rfl (by omega)) ?_ | refine opt_some rfl ?_ | refine ⟨_, (by simp only [nf, nl, nm, en, ints, setC_setC, Nat.reduceAdd, Nat.reduceMul]; exact rfl), ?_⟩ | refine ⟨_, pickT rfl, ?_⟩ | refine ⟨_, rfl, ?_⟩ | refine iteP_true rfl ?_ | refine iteP_false rfl ?_ | refine iteP_true ‹_› ?_ | refine iteP_false ‹_› ?_ | refine andK ?_ | refine andA ?_ | refine andT ?_); conv => whnf) | (refine iteP_intro (fun hb => ?_) (fun hb => ?_) <;> (conv => whnf)))
    (refine ⟨_, hN, ?_⟩; conv => whnf)
    repeat' (first | ((first | refine opt_some (getC_rows rfl rfl (by omega)) ?_ | refine opt_some (by dsimp only; exact getC_lent rfl rfl (by omega)) ?_ | refine opt_some rfl ?_ | refine ⟨_, (by simp only [nf, nl, nm, en, ints, setC_setC, Nat.reduceAdd, Nat.reduceMul]; exact rfl), ?_⟩ | refine ⟨_, pickT rfl, ?_⟩ | refine ⟨_, rfl, ?_⟩ | refine iteP_true rfl ?_ | refine iteP_false rfl ?_ | refine iteP_true ‹_› ?_ | refine iteP_false ‹_› ?_ | refine andK ?_ | refine andA ?_ | refine andT ?_); conv => whnf) | (refine iteP_intro (fun hb => ?_) (fun hb => ?_) <;> (conv => whnf)))
    rfl
  · rw [show ((0 : Nat) : Int) = 0 from rfl] at hf
    rw [hf] at hF
    rw [hc, if_neg (by simp)]
    (refine ret_of_den (E := en 23 [] (fun _ => []) (fun _ => [])) tt_ok mixed Tryd.func117 rfl rfl rfl rfl ?_; refine ⟨by simp, ?_⟩)
    repeat' (first | ((first | refine opt_some (getC_rows rfl rfl (by omega)) ?_ | refine opt_some (by dsimp only; exact getC_lent rfl rfl (by omega)) ?_ | refine opt_some rfl ?_ | refine ⟨_, (by simp only [nf, nl, nm, en, ints, setC_setC, Nat.reduceAdd, Nat.reduceMul]; exact rfl), ?_⟩ | refine ⟨_, pickT rfl, ?_⟩ | refine ⟨_, rfl, ?_⟩ | refine iteP_true rfl ?_ | refine iteP_false rfl ?_ | refine iteP_true ‹_› ?_ | refine iteP_false ‹_› ?_ | refine andK ?_ | refine andA ?_ | refine andT ?_); conv => whnf) | (refine iteP_intro (fun hb => ?_) (fun hb => ?_) <;> (conv => whnf)))
    (refine ⟨_, hF, ?_⟩; conv => whnf)
    repeat' (first | ((first | refine opt_some (getC_rows rfl rfl (by omega)) ?_ | refine opt_some (by dsimp only; exact getC_lent rfl rfl (by omega)) ?_ | refine opt_some rfl ?_ | refine ⟨_, (by simp only [nf, nl, nm, en, ints, setC_setC, Nat.reduceAdd, Nat.reduceMul]; exact rfl), ?_⟩ | refine ⟨_, pickT rfl, ?_⟩ | refine ⟨_, rfl, ?_⟩ | refine iteP_true rfl ?_ | refine iteP_false rfl ?_ | refine iteP_true ‹_› ?_ | refine iteP_false ‹_› ?_ | refine andK ?_ | refine andA ?_ | refine andT ?_); conv => whnf) | (refine iteP_intro (fun hb => ?_) (fun hb => ?_) <;> (conv => whnf)))
    rfl
def fndW (w : List Int) : List (List Int) → Int → Int
  | [], _ => -1
  | r :: rs, k => if r = w then k else fndW w rs (k + 1)
theorem fndW_neg {w : List Int} : ∀ {rs : List (List Int)} {k : Int}, 0 ≤ k → (fndW w rs k < 0 ↔ w ∉ rs)
  | [], k, _ => by simp [fndW]
  | r :: rs, k, h => by
    rw [fndW]
    split
    · next e =>
      subst e
      simp
      omega
    · next e =>
      rw [fndW_neg (by omega)]
      simp
      intro _ e2
      exact e e2.symm
set_option maxHeartbeats 4000000 in
set_option maxRecDepth 100000 in
theorem l07Find_ret (rs : List (List Int)) (w : List Int) (hr : rs.length < 2 ^ 62) (hx : ∀ r ∈ rs, r.length < 2 ^ 62) : Ret Tryd.prog G0 118 [⟨.ro, .one (rowsI rs)⟩, ⟨.ro, .one (ints w)⟩] ⟨.one (i64 (fndW w rs 0)), []⟩ := by
  unfold rowsI
  (refine ret_of_den (E := en 19 [] (fun _ => [(5, 0), (0, 1), (1, 1)]) (fun _ => [])) tt_ok mixed Tryd.func118 rfl rfl rfl rfl ?_; refine ⟨by simp, ?_⟩)
  repeat' (first | ((first | refine opt_some (getC_rows rfl rfl (by omega)) ?_ | refine opt_some (by dsimp only; exact getC_lent rfl rfl (by omega)) ?_ | refine opt_some rfl ?_ | refine ⟨_, (by simp only [nf, nl, nm, en, ints, setC_setC, Nat.reduceAdd, Nat.reduceMul]; exact rfl), ?_⟩ | refine ⟨_, pickT rfl, ?_⟩ | refine ⟨_, rfl, ?_⟩ | refine iteP_true rfl ?_ | refine iteP_false rfl ?_ | refine iteP_true ‹_› ?_ | refine iteP_false ‹_› ?_ | refine andK ?_ | refine andA ?_ | refine andT ?_); conv => whnf) | (refine iteP_intro (fun hb => ?_) (fun hb => ?_) <;> (conv => whnf)))
  refine ⟨fun k vs => ∃ i : Nat, i ≤ rs.length ∧ fndW w rs 0 = fndW w (rs.drop i) i ∧ vs = [.one (i64 i), .one (.shd (.sl false 1 rs.length (rs.map ints))), .one (.shd (ints w))] ∧ k = rs.length - i, rfl, ⟨_, 0, by omega, rfl, rfl, rfl⟩, ?_⟩
  rintro k vs ⟨i, hi, hc, rfl, rfl⟩
  repeat (first | ((first | refine opt_some (getC_rows rfl rfl (by omega)) ?_ | refine opt_some (by dsimp only; exact getC_lent rfl rfl (by omega)) ?_ | refine opt_some rfl ?_ | refine ⟨_, (by simp only [nf, nl, nm, en, ints, setC_setC, Nat.reduceAdd, Nat.reduceMul]; exact rfl), ?_⟩ | refine ⟨_, pickT rfl, ?_⟩ | refine ⟨_, rfl, ?_⟩ | refine iteP_true rfl ?_ | refine iteP_false rfl ?_ | refine iteP_true ‹_› ?_ | refine iteP_false ‹_› ?_ | refine andK ?_ | refine andA ?_ | refine andT ?_); conv => whnf))
  refine iteP_intro (fun hb => ?_) (fun hb => ?_) <;> (conv => whnf)
  · have hi' : i < rs.length := by have := leT hb; omega
    rw [List.drop_eq_getElem_cons hi', fndW] at hc
    repeat (first | ((first | refine opt_some (getC_rows rfl rfl (by omega)) ?_ | refine opt_some (by dsimp only; exact getC_lent rfl rfl (by omega)) ?_ | refine opt_some rfl ?_ | refine ⟨_, (by simp only [nf, nl, nm, en, ints, setC_setC, Nat.reduceAdd, Nat.reduceMul]; exact rfl), ?_⟩ | refine ⟨_, pickT rfl, ?_⟩ | refine ⟨_, rfl, ?_⟩ | refine iteP_true rfl ?_ | refine iteP_false rfl ?_ | refine iteP_true ‹_› ?_ | refine iteP_false ‹_› ?_ | refine andK ?_ | refine andA ?_ | refine andT ?_); conv => whnf))
    (refine ⟨_, l01Same_ret rs[i] w (hx _ (List.getElem_mem hi')), ?_⟩; conv => whnf)
    repeat' (first | ((first | refine opt_some (getC_rows rfl rfl (by omega)) ?_ | refine opt_some (by dsimp only; exact getC_lent rfl rfl (by omega)) ?_ | refine opt_some rfl ?_ | refine ⟨_, (by simp only [nf, nl, nm, en, ints, setC_setC, Nat.reduceAdd, Nat.reduceMul]; exact rfl), ?_⟩ | refine ⟨_, pickT rfl, ?_⟩ | refine ⟨_, rfl, ?_⟩ | refine iteP_true rfl ?_ | refine iteP_false rfl ?_ | refine iteP_true ‹_› ?_ | refine iteP_false ‹_› ?_ | refine andK ?_ | refine andA ?_ | refine andT ?_); conv => whnf) | (refine iteP_intro (fun hb => ?_) (fun hb => ?_) <;> (conv => whnf)))
    · have e : rs[i] = w := of_decide_eq_true hb
      rw [if_pos e] at hc
      refine endI ?_
      rw [hc]
    · have e : ¬ rs[i] = w := of_decide_eq_false hb
      rw [if_neg e] at hc
      refine ⟨_, ?_, i + 1, hi', hc, by rw [wrap_succ (by omega)]; rfl, rfl⟩
      omega
  · obtain rfl : i = rs.length := by have := leF hb; omega
    rw [List.drop_eq_nil_of_le (Nat.le_refl _)] at hc
    repeat' (first | ((first | refine opt_some (getC_rows rfl rfl (by omega)) ?_ | refine opt_some (by dsimp only; exact getC_lent rfl rfl (by omega)) ?_ | refine opt_some rfl ?_ | refine ⟨_, (by simp only [nf, nl, nm, en, ints, setC_setC, Nat.reduceAdd, Nat.reduceMul]; exact rfl), ?_⟩ | refine ⟨_, pickT rfl, ?_⟩ | refine ⟨_, rfl, ?_⟩ | refine iteP_true rfl ?_ | refine iteP_false rfl ?_ | refine iteP_true ‹_› ?_ | refine iteP_false ‹_› ?_ | refine andK ?_ | refine andA ?_ | refine andT ?_); conv => whnf) | (refine iteP_intro (fun hb => ?_) (fun hb => ?_) <;> (conv => whnf)))
    refine endI ?_
    rw [hc]
    rfl
/-- The conjugates that a word's first a letters lead to are added, up to one more than 1000. -/
def cjI (ms r : List Nat) : Nat → List (List Nat) → List (List Nat)
  | 0, out => out
  | a + 1, out => if 1000 < (cjI ms r a out).length then cjI ms r a out else if canF ms a r && !decide (rotN ms r a ∈ cjI ms r a out) then cjI ms r a out ++ [rotN ms r a] else cjI ms r a out
def cjF (ms : List Nat) : Nat → Nat → List (List Nat) → List (List Nat)
  | 0, _, out => out
  | f + 1, i, out => if i < out.length ∧ ¬ 1000 < out.length then cjF ms f (i + 1) (cjI ms (out.getD i []) ms.length out) else out
def cjW (ms w : List Nat) : List (List Nat) := cjF ms 1001 0 [nform ms w]
theorem cjI_sat {ms r : List Nat} {out : List (List Nat)} {a : Nat} (h : 1000 < (cjI ms r a out).length) : ∀ d, cjI ms r (a + d) out = cjI ms r a out
  | 0 => rfl
  | d + 1 => by
    rw [← Nat.add_assoc, cjI, cjI_sat h d, if_pos h]
theorem cjF_sat {ms : List Nat} {out : List (List Nat)} (h : 1000 < out.length) : ∀ f i, cjF ms f i out = out
  | 0, _ => rfl
  | f + 1, i => by rw [cjF, if_neg (fun hh => hh.2 h)]
theorem cjI_all {ms r : List Nat} {p : List Nat → Prop} (hp : ∀ a, a < ms.length → canF ms a r = true → p (rotN ms r a)) {out : List (List Nat)} (ho : ∀ x ∈ out, p x) : ∀ a, a ≤ ms.length → ∀ x ∈ cjI ms r a out, p x
  | 0, _ => ho
  | a + 1, h => by
    have ih := cjI_all hp ho a (by omega)
    rw [cjI]
    split
    · exact ih
    · split
      · next hc =>
        rw [Bool.and_eq_true] at hc
        intro x hx
        rcases List.mem_append.1 hx with hx | hx
        · exact ih x hx
        · rw [List.mem_singleton.1 hx]
          exact hp a (by omega) hc.1
      · exact ih
theorem cjI_pre {ms r : List Nat} {out : List (List Nat)} : ∀ a, ∃ t, cjI ms r a out = out ++ t
  | 0 => ⟨[], by simp [cjI]⟩
  | a + 1 => by
    obtain ⟨t, ht⟩ := cjI_pre (ms := ms) (r := r) (out := out) a
    rw [cjI]
    split
    · exact ⟨t, ht⟩
    · split
      · exact ⟨t ++ [rotN ms r a], by rw [ht, List.append_assoc]⟩
      · exact ⟨t, ht⟩
theorem cjI_nodup {ms r : List Nat} {out : List (List Nat)} (ho : out.Nodup) : ∀ a, (cjI ms r a out).Nodup
  | 0 => ho
  | a + 1 => by
    have ih := cjI_nodup (ms := ms) (r := r) ho a
    rw [cjI]
    split
    · exact ih
    · split
      · next hc =>
        rw [Bool.and_eq_true, Bool.not_eq_true', decide_eq_false_iff_not] at hc
        refine List.nodup_append.2 ⟨ih, by simp, fun x hx y hy e => ?_⟩
        rw [List.mem_singleton] at hy
        subst e
        subst hy
        exact hc.2 hx
      · exact ih
theorem cjF_nodup {ms : List Nat} : ∀ (f i : Nat) {out : List (List Nat)}, out.Nodup → (cjF ms f i out).Nodup
  | 0, _, _, h => h
  | f + 1, i, out, h => by
    rw [cjF]
    split
    · exact cjF_nodup f (i + 1) (cjI_nodup h _)
    · exact h
theorem natI_mem {w : List Nat} {out : List (List Nat)} : natI w ∈ out.map natI ↔ w ∈ out := by
  constructor
  · intro h
    obtain ⟨x, hx, e⟩ := List.mem_map.1 h
    rwa [← natI_inj e]
  · exact fun h => List.mem_map_of_mem h
theorem rowsC_map (out : List (List Nat)) : rowsC out = .sl false 1 out.length ((out.map natI).map ints) := by
  unfold rowsC
  rw [List.map_map]
  rfl
/-- What holds of a list of conjugates on the way. -/
structure CjG (ms : List Nat) (L : Nat) (out : List (List Nat)) : Prop where
  ok : ∀ r ∈ out, Wd ms r ∧ r.length = L
theorem CjG.rot {ms : List Nat} {L : Nat} {out : List (List Nat)} (hA : Alpha ms) (h : CjG ms L out) {r : List Nat} (hr : r ∈ out) {a : Nat} (ha : a < ms.length) (hc : canF ms a r = true) : CjG ms L (out ++ [rotN ms r a]) where
  ok x hx := by
    rcases List.mem_append.1 hx with hx | hx
    · exact h.ok x hx
    · rw [List.mem_singleton.1 hx]
      exact ⟨rotN_wd hA (h.ok r hr).1 ha, by rw [rotN_len hA (h.ok r hr).1 ha (canF_mem hc), (h.ok r hr).2]⟩
set_option maxHeartbeats 4000000 in
set_option maxRecDepth 100000 in
theorem l07Class_ex (ms w : List Nat) (hA : Alpha ms) (hl : ms.length ≤ 8) (hw : Wd ms w) (hx : w.length ≤ 24) : ∃ r, (∃ fs : List Int, r = ⟨.tup [(false, [if 1000 < (cjW ms w).length then nilS else rowsC (cjW ms w)]), (false, [if 1000 < (cjW ms w).length then nilS else ints fs]), (false, [.c (.bool (!decide (1000 < (cjW ms w).length)))])], []⟩) ∧ Ret Tryd.prog G0 80 [⟨.ro, .agg [i64 ms.length, ints (natI ms)]⟩, ⟨.ro, .one (ints (natI w))⟩] r := by
  have hN := l03Normal_ret ms w hA (by omega) hw (by omega)
  have hml := natI_length ms
  (refine rete_of_den (E := en 64 [] (fun | 3 => [(2, 0), (7, 0), (8, 0), (9, 0)] | 6 => [(2, 0), (7, 0), (8, 0), (9, 0), (10, 0)] | _ => []) (fun _ => [])) tt_ok mixed Tryd.func80 rfl rfl rfl rfl ?_; refine ⟨by simp, ?_⟩)
  repeat' (first | ((first | refine opt_some (getC_rows rfl rfl (by omega)) ?_ | refine opt_some (by dsimp only; exact getC_lent rfl rfl (by omega)) ?_ | refine opt_some rfl ?_ | refine ⟨_, (by simp only [nf, nl, nm, en, ints, setC_setC, Nat.reduceAdd, Nat.reduceMul]; exact rfl), ?_⟩ | refine ⟨_, pickT rfl, ?_⟩ | refine ⟨_, rfl, ?_⟩ | refine iteP_true rfl ?_ | refine iteP_false rfl ?_ | refine iteP_true ‹_› ?_ | refine iteP_false ‹_› ?_ | refine andK ?_ | refine andA ?_ | refine andT ?_); conv => whnf) | (refine iteP_intro (fun hb => ?_) (fun hb => ?_) <;> (conv => whnf)))
  (refine ⟨_, hN, ?_⟩; conv => whnf)
  repeat' (first | ((first | refine opt_some (getC_rows rfl rfl (by omega)) ?_ | refine opt_some (by dsimp only; exact getC_lent rfl rfl (by omega)) ?_ | refine opt_some rfl ?_ | refine ⟨_, (by simp only [nf, nl, nm, en, ints, setC_setC, Nat.reduceAdd, Nat.reduceMul]; exact rfl), ?_⟩ | refine ⟨_, pickT rfl, ?_⟩ | refine ⟨_, rfl, ?_⟩ | refine iteP_true rfl ?_ | refine iteP_false rfl ?_ | refine iteP_true ‹_› ?_ | refine iteP_false ‹_› ?_ | refine andK ?_ | refine andA ?_ | refine andT ?_); conv => whnf) | (refine iteP_intro (fun hb => ?_) (fun hb => ?_) <;> (conv => whnf)))
  refine ⟨fun k vs => ∃ (i : Nat) (out : List (List Nat)) (fs : List Int), i ≤ out.length ∧ out.length ≤ 1000 ∧ fs.length = out.length ∧ CjG ms w.length out ∧ cjF ms (1001 - i) i out = cjW ms w ∧ vs = [.one (.ptr [i64 ms.length, .shd (ints (natI ms))]), .one (.sl false 1 out.length ((out.map natI).map ints)), .one (ints fs), .one (i64 i)] ∧ k = 1001 - i, rfl, ⟨_, 0, [nform ms w], [0], by simp, by simp, rfl, ⟨fun r hr => ?_⟩, rfl, rfl, rfl⟩, ?_⟩
  · rw [List.mem_singleton.1 hr]
    exact ⟨nform_wd hA hw, nform_length hA hw⟩
  rintro k vs ⟨i, out, fs, hi, hol, hfl, hg, hF, rfl, rfl⟩
  repeat (first | ((first | refine opt_some (getC_rows rfl rfl (by omega)) ?_ | refine opt_some (by dsimp only; exact getC_lent rfl rfl (by omega)) ?_ | refine opt_some rfl ?_ | refine ⟨_, (by simp only [nf, nl, nm, en, ints, setC_setC, Nat.reduceAdd, Nat.reduceMul]; exact rfl), ?_⟩ | refine ⟨_, pickT rfl, ?_⟩ | refine ⟨_, rfl, ?_⟩ | refine iteP_true rfl ?_ | refine iteP_false rfl ?_ | refine iteP_true ‹_› ?_ | refine iteP_false ‹_› ?_ | refine andK ?_ | refine andA ?_ | refine andT ?_); conv => whnf))
  refine iteP_intro (fun hb => ?_) (fun hb => ?_) <;> (conv => whnf)
  · have hi' : i < out.length := by have := leT hb; omega
    rw [show 1001 - i = (1001 - (i + 1)) + 1 by omega, cjF, if_pos ⟨hi', by omega⟩] at hF
    obtain ⟨r, hr⟩ : ∃ r, out.getD i [] = r := ⟨_, rfl⟩
    have hrm : r ∈ out := by rw [← hr, List.getD_eq_getElem?_getD, List.getElem?_eq_getElem hi', Option.getD_some]; exact List.getElem_mem hi'
    rw [hr] at hF
    obtain ⟨hrw, hrl⟩ := hg.ok r hrm
    repeat (first | ((first | refine opt_some (getC_rows rfl rfl (by omega)) ?_ | refine opt_some (by dsimp only; exact getC_lent rfl rfl (by omega)) ?_ | refine opt_some rfl ?_ | refine ⟨_, (by simp only [nf, nl, nm, en, ints, setC_setC, Nat.reduceAdd, Nat.reduceMul]; exact rfl), ?_⟩ | refine ⟨_, pickT rfl, ?_⟩ | refine ⟨_, rfl, ?_⟩ | refine iteP_true rfl ?_ | refine iteP_false rfl ?_ | refine iteP_true ‹_› ?_ | refine iteP_false ‹_› ?_ | refine andK ?_ | refine andA ?_ | refine andT ?_); conv => whnf))
    refine ⟨fun k vs => ∃ (a : Nat) (o : List (List Nat)) (fs : List Int), a ≤ ms.length ∧ cjI ms r a out = o ∧ o.length ≤ 1000 ∧ fs.length = o.length ∧ CjG ms w.length o ∧ (∃ t, o = out ++ t) ∧ vs = [.one (.ptr [i64 ms.length, .shd (ints (natI ms))]), .one (.sl false 1 o.length ((o.map natI).map ints)), .one (ints fs), .one (i64 i), .one (i64 a)] ∧ k = ms.length - a, rfl, ⟨_, 0, out, fs, by omega, rfl, hol, hfl, hg, ⟨[], by simp⟩, rfl, rfl⟩, ?_⟩
    rintro k vs ⟨a, o, fs, ha, ho, hol, hfl, hg, ⟨t, ht⟩, rfl, rfl⟩
    have hio : i < o.length := by rw [ht, List.length_append]; omega
    have hmo : (o.map natI).length = o.length := List.length_map _
    have hgi : (o.map natI)[i]'(by omega) = natI r := by
      rw [List.getElem_map, ← hr, List.getD_eq_getElem?_getD, List.getElem?_eq_getElem hi', Option.getD_some]
      congr 1
      simp only [ht]
      rw [List.getElem_append_left hi']
    have hro : r ∈ o := by rw [ht]; exact List.mem_append_left _ hrm
    repeat (first | ((first | refine opt_some (getC_rows rfl rfl (by omega)) ?_ | refine opt_some (by dsimp only; exact getC_lent rfl rfl (by omega)) ?_ | refine opt_some rfl ?_ | refine ⟨_, (by simp only [nf, nl, nm, en, ints, setC_setC, Nat.reduceAdd, Nat.reduceMul]; exact rfl), ?_⟩ | refine ⟨_, pickT rfl, ?_⟩ | refine ⟨_, rfl, ?_⟩ | refine iteP_true rfl ?_ | refine iteP_false rfl ?_ | refine iteP_true ‹_› ?_ | refine iteP_false ‹_› ?_ | refine andK ?_ | refine andA ?_ | refine andT ?_); conv => whnf))
    refine iteP_intro (fun hb => ?_) (fun hb => ?_) <;> (conv => whnf)
    · have ha' : a < ms.length := by have := leT hb; omega
      have hR := l07Rotate_ret ms r a hA (by omega) hrw (by omega) ha'
      rw [← hgi] at hR
      have hs : cjI ms r (a + 1) out = if canF ms a r && !decide (rotN ms r a ∈ o) then o ++ [rotN ms r a] else o := by
        rw [cjI, ho, if_neg (by omega)]
      cases hc : canF ms a r with
      | false =>
        rw [hc, Bool.false_and, if_neg (by simp)] at hs
        rw [hc, if_neg (by simp)] at hR
        repeat (first | ((first | refine opt_some (getC_rows rfl rfl (by omega)) ?_ | refine opt_some (by dsimp only; exact getC_lent rfl rfl (by omega)) ?_ | refine opt_some rfl ?_ | refine ⟨_, (by simp only [nf, nl, nm, en, ints, setC_setC, Nat.reduceAdd, Nat.reduceMul]; exact rfl), ?_⟩ | refine ⟨_, pickT rfl, ?_⟩ | refine ⟨_, rfl, ?_⟩ | refine iteP_true rfl ?_ | refine iteP_false rfl ?_ | refine iteP_true ‹_› ?_ | refine iteP_false ‹_› ?_ | refine andK ?_ | refine andA ?_ | refine andT ?_); conv => whnf))
        (refine ⟨_, hR, ?_⟩; conv => whnf)
        repeat (first | ((first | refine opt_some (getC_rows rfl rfl (by omega)) ?_ | refine opt_some (by dsimp only; exact getC_lent rfl rfl (by omega)) ?_ | refine opt_some rfl ?_ | refine ⟨_, (by simp only [nf, nl, nm, en, ints, setC_setC, Nat.reduceAdd, Nat.reduceMul]; exact rfl), ?_⟩ | refine ⟨_, pickT rfl, ?_⟩ | refine ⟨_, rfl, ?_⟩ | refine iteP_true rfl ?_ | refine iteP_false rfl ?_ | refine iteP_true ‹_› ?_ | refine iteP_false ‹_› ?_ | refine andK ?_ | refine andA ?_ | refine andT ?_); conv => whnf))
        refine ⟨_, ?_, a + 1, o, fs, ha', hs, hol, hfl, hg, ⟨t, ht⟩, by rw [wrap_succ (by omega)]; rfl, rfl⟩
        omega
      | true =>
        rw [hc, Bool.true_and] at hs
        rw [hc, if_pos rfl] at hR
        have hFi := l07Find_ret (o.map natI) (natI (rotN ms r a)) (by omega) (fun x hx => by obtain ⟨y, hy, rfl⟩ := List.mem_map.1 hx; rw [natI_length, (hg.ok y hy).2]; omega)
        have hneg := fndW_neg (w := natI (rotN ms r a)) (rs := o.map natI) (k := 0) (Int.le_refl _)
        rw [natI_mem] at hneg
        unfold rowsI at hFi
        rw [hmo] at hFi
        repeat (first | ((first | refine opt_some (getC_rows rfl rfl (by omega)) ?_ | refine opt_some (by dsimp only; exact getC_lent rfl rfl (by omega)) ?_ | refine opt_some rfl ?_ | refine ⟨_, (by simp only [nf, nl, nm, en, ints, setC_setC, Nat.reduceAdd, Nat.reduceMul]; exact rfl), ?_⟩ | refine ⟨_, pickT rfl, ?_⟩ | refine ⟨_, rfl, ?_⟩ | refine iteP_true rfl ?_ | refine iteP_false rfl ?_ | refine iteP_true ‹_› ?_ | refine iteP_false ‹_› ?_ | refine andK ?_ | refine andA ?_ | refine andT ?_); conv => whnf))
        (refine ⟨_, hR, ?_⟩; conv => whnf)
        repeat (first | ((first | refine opt_some (getC_rows rfl rfl (by omega)) ?_ | refine opt_some (by dsimp only; exact getC_lent rfl rfl (by omega)) ?_ | refine opt_some rfl ?_ | refine ⟨_, (by simp only [nf, nl, nm, en, ints, setC_setC, Nat.reduceAdd, Nat.reduceMul]; exact rfl), ?_⟩ | refine ⟨_, pickT rfl, ?_⟩ | refine ⟨_, rfl, ?_⟩ | refine iteP_true rfl ?_ | refine iteP_false rfl ?_ | refine iteP_true ‹_› ?_ | refine iteP_false ‹_› ?_ | refine andK ?_ | refine andA ?_ | refine andT ?_); conv => whnf))
        (refine ⟨_, hFi, ?_⟩; conv => whnf)
        repeat (first | ((first | refine opt_some (getC_rows rfl rfl (by omega)) ?_ | refine opt_some (by dsimp only; exact getC_lent rfl rfl (by omega)) ?_ | refine opt_some rfl ?_ | refine ⟨_, (by simp only [nf, nl, nm, en, ints, setC_setC, Nat.reduceAdd, Nat.reduceMul]; exact rfl), ?_⟩ | refine ⟨_, pickT rfl, ?_⟩ | refine ⟨_, rfl, ?_⟩ | refine iteP_true rfl ?_ | refine iteP_false rfl ?_ | refine iteP_true ‹_› ?_ | refine iteP_false ‹_› ?_ | refine andK ?_ | refine andA ?_ | refine andT ?_); conv => whnf))
        refine iteP_intro (fun hb => ?_) (fun hb => ?_) <;> (conv => whnf)
        · have hn : rotN ms r a ∉ o := hneg.1 (of_decide_eq_true hb)
          rw [decide_eq_false hn, Bool.not_false, if_pos rfl] at hs
          have hsn : Cell.sl false 1 (o.length + 1) ((o.map natI).map ints ++ [ints (natI (rotN ms r a))]) = .sl false 1 (o ++ [rotN ms r a]).length (((o ++ [rotN ms r a]).map natI).map ints) := by simp
          have hg2 := hg.rot hA hro ha' hc
          have hl2 : (o ++ [rotN ms r a]).length = o.length + 1 := by simp
          repeat (first | ((first | refine opt_some (getC_rows rfl rfl (by omega)) ?_ | refine opt_some (by dsimp only; exact getC_lent rfl rfl (by omega)) ?_ | refine opt_some rfl ?_ | refine ⟨_, (by simp only [nf, nl, nm, en, ints, setC_setC, Nat.reduceAdd, Nat.reduceMul]; exact rfl), ?_⟩ | refine ⟨_, pickT rfl, ?_⟩ | refine ⟨_, rfl, ?_⟩ | refine iteP_true rfl ?_ | refine iteP_false rfl ?_ | refine iteP_true ‹_› ?_ | refine iteP_false ‹_› ?_ | refine andK ?_ | refine andA ?_ | refine andT ?_); conv => whnf))
          refine iteP_intro (fun hb => ?_) (fun hb => ?_) <;> (conv => whnf)
          · have hbig : 1000 < (o ++ [rotN ms r a]).length := by have := leT hb; omega
            have hW : cjW ms w = o ++ [rotN ms r a] := by
              have h1 := cjI_sat (ms := ms) (r := r) (out := out) (a := a + 1) (by rw [hs]; exact hbig) (ms.length - (a + 1))
              rw [show a + 1 + (ms.length - (a + 1)) = ms.length by omega, hs] at h1
              rw [← hF, h1, cjF_sat hbig]
            repeat' (first | ((first | refine opt_some (getC_rows rfl rfl (by omega)) ?_ | refine opt_some (by dsimp only; exact getC_lent rfl rfl (by omega)) ?_ | refine opt_some rfl ?_ | refine ⟨_, (by simp only [nf, nl, nm, en, ints, setC_setC, Nat.reduceAdd, Nat.reduceMul]; exact rfl), ?_⟩ | refine ⟨_, pickT rfl, ?_⟩ | refine ⟨_, rfl, ?_⟩ | refine iteP_true rfl ?_ | refine iteP_false rfl ?_ | refine iteP_true ‹_› ?_ | refine iteP_false ‹_› ?_ | refine andK ?_ | refine andA ?_ | refine andT ?_); conv => whnf) | (refine iteP_intro (fun hb => ?_) (fun hb => ?_) <;> (conv => whnf)))
            refine ⟨[], ?_⟩
            rw [hW, if_pos hbig, if_pos hbig, decide_eq_true hbig]
            rfl
          · have hsm : (o ++ [rotN ms r a]).length ≤ 1000 := by have := leF hb; omega
            repeat (first | ((first | refine opt_some (getC_rows rfl rfl (by omega)) ?_ | refine opt_some (by dsimp only; exact getC_lent rfl rfl (by omega)) ?_ | refine opt_some rfl ?_ | refine ⟨_, (by simp only [nf, nl, nm, en, ints, setC_setC, Nat.reduceAdd, Nat.reduceMul]; exact rfl), ?_⟩ | refine ⟨_, pickT rfl, ?_⟩ | refine ⟨_, rfl, ?_⟩ | refine iteP_true rfl ?_ | refine iteP_false rfl ?_ | refine iteP_true ‹_› ?_ | refine iteP_false ‹_› ?_ | refine andK ?_ | refine andA ?_ | refine andT ?_); conv => whnf))
            refine ⟨_, ?_, a + 1, _, fs ++ [IntKind.i64.wrap (fs[i]'(by omega) + 1)], ha', hs, hsm, by simp [hfl], hg2, ⟨t ++ [rotN ms r a], by rw [ht, List.append_assoc]⟩, ?_, rfl⟩
            · omega
            · rw [wrap_succ (by omega), ← hsn, ints_snoc]
              rfl
        · have hn : rotN ms r a ∈ o := Decidable.not_not.1 fun h => (of_decide_eq_false hb) (hneg.2 h)
          rw [decide_eq_true hn, if_neg (by simp)] at hs
          repeat (first | ((first | refine opt_some (getC_rows rfl rfl (by omega)) ?_ | refine opt_some (by dsimp only; exact getC_lent rfl rfl (by omega)) ?_ | refine opt_some rfl ?_ | refine ⟨_, (by simp only [nf, nl, nm, en, ints, setC_setC, Nat.reduceAdd, Nat.reduceMul]; exact rfl), ?_⟩ | refine ⟨_, pickT rfl, ?_⟩ | refine ⟨_, rfl, ?_⟩ | refine iteP_true rfl ?_ | refine iteP_false rfl ?_ | refine iteP_true ‹_› ?_ | refine iteP_false ‹_› ?_ | refine andK ?_ | refine andA ?_ | refine andT ?_); conv => whnf))
          refine ⟨_, ?_, a + 1, o, fs, ha', hs, hol, hfl, hg, ⟨t, ht⟩, by rw [wrap_succ (by omega)]; rfl, rfl⟩
          omega
    · obtain rfl : a = ms.length := by have := leF hb; omega
      rw [ho] at hF
      repeat (first | ((first | refine opt_some (getC_rows rfl rfl (by omega)) ?_ | refine opt_some (by dsimp only; exact getC_lent rfl rfl (by omega)) ?_ | refine opt_some rfl ?_ | refine ⟨_, (by simp only [nf, nl, nm, en, ints, setC_setC, Nat.reduceAdd, Nat.reduceMul]; exact rfl), ?_⟩ | refine ⟨_, pickT rfl, ?_⟩ | refine ⟨_, rfl, ?_⟩ | refine iteP_true rfl ?_ | refine iteP_false rfl ?_ | refine iteP_true ‹_› ?_ | refine iteP_false ‹_› ?_ | refine andK ?_ | refine andA ?_ | refine andT ?_); conv => whnf))
      refine ⟨_, ?_, i + 1, o, fs, by omega, hol, hfl, hg, hF, by rw [wrap_succ (by omega)]; rfl, rfl⟩
      omega
  · have hi' : ¬ i < out.length := by have := leF hb; omega
    have hW : cjW ms w = out := by
      rw [← hF]
      cases h : 1001 - i with
      | zero => rfl
      | succ f => rw [cjF, if_neg (fun h => hi' h.1)]
    repeat' (first | ((first | refine opt_some (getC_rows rfl rfl (by omega)) ?_ | refine opt_some (by dsimp only; exact getC_lent rfl rfl (by omega)) ?_ | refine opt_some rfl ?_ | refine ⟨_, (by simp only [nf, nl, nm, en, ints, setC_setC, Nat.reduceAdd, Nat.reduceMul]; exact rfl), ?_⟩ | refine ⟨_, pickT rfl, ?_⟩ | refine ⟨_, rfl, ?_⟩ | refine iteP_true rfl ?_ | refine iteP_false rfl ?_ | refine iteP_true ‹_› ?_ | refine iteP_false ‹_› ?_ | refine andK ?_ | refine andA ?_ | refine andT ?_); conv => whnf) | (refine iteP_intro (fun hb => ?_) (fun hb => ?_) <;> (conv => whnf)))
    refine ⟨fs, ?_⟩
    rw [hW, if_neg (by omega), if_neg (by omega), decide_eq_false (by omega : ¬ 1000 < out.length), rowsC_map]
    rfl
/-- A word put into an ascending list. -/
def insS (w : List Int) : List (List Int) → List (List Int)
  | [] => [w]
  | r :: rs => if ltR r w then r :: insS w rs else w :: r :: rs
def insP (w : List Int) : List (List Int) → Nat
  | [] => 0
  | r :: rs => if ltR r w then insP w rs + 1 else 0
theorem insS_at (w : List Int) : ∀ rs, insS w rs = rs.take (insP w rs) ++ [w] ++ rs.drop (insP w rs)
  | [] => rfl
  | r :: rs => by
    rw [insS, insP]
    split
    · rw [insS_at w rs]
      simp
    · simp
theorem insP_step {w : List Int} {rs : List (List Int)} {i : Nat} (hi : i < rs.length) : insP w (rs.drop i) = if ltR rs[i] w then insP w (rs.drop (i + 1)) + 1 else 0 := by
  rw [List.drop_eq_getElem_cons hi, insP]
theorem insS_len (w : List Int) (rs : List (List Int)) : (insS w rs).length = rs.length + 1 := by
  induction rs with
  | nil => rfl
  | cons r rs ih =>
    rw [insS]
    split
    · simp [ih]
    · simp
theorem insS_perm (w : List Int) : ∀ rs, (insS w rs).Perm (w :: rs)
  | [] => .refl _
  | r :: rs => by
    rw [insS]
    split
    · exact ((insS_perm w rs).cons r).trans (.swap w r rs)
    · exact .refl _
theorem cut_hiR {xs : List (List Int)} {i : Nat} (h : i ≤ xs.length) : Cell.sl false 1 (i : Int).toNat ((xs.map ints).take ((i : Int).toNat * 1)) = .sl false 1 i ((xs.take i).map ints) := by
  rw [Int.toNat_natCast, Nat.mul_one, List.map_take]
theorem cut_loR {xs : List (List Int)} {i : Nat} : Cell.sl false 1 (xs.length - (i : Int).toNat) ((xs.map ints).drop ((i : Int).toNat * 1)) = .sl false 1 (xs.length - i) ((xs.drop i).map ints) := by
  rw [Int.toNat_natCast, Nat.mul_one, List.map_drop]
theorem all_rows (xs : List (List Int)) : (xs.map ints).all okC = true := List.all_eq_true.2 fun c hc => by
  obtain ⟨x, _, rfl⟩ := List.mem_map.1 hc
  rfl
theorem roL_rows : ∀ xs : List (List Int), roL (xs.map ints) = xs.map ints
  | [] => rfl
  | x :: xs => by
    rw [List.map_cons, roL, roL_rows xs]
    rfl
theorem roL_app : ∀ xs ys : List Cell, roL (xs ++ ys) = roL xs ++ roL ys
  | [], _ => rfl
  | x :: xs, ys => by rw [List.cons_append, roL, roL, roL_app xs ys, List.cons_append]
theorem ins_fin {rs : List (List Int)} {w : List Int} {i : Nat} (hi : i ≤ rs.length) (h : insP w rs = i) : Cell.sl true 1 (0 + i + 1 + (rs.length - i)) (roL (roL (roL [] ++ List.map ints (List.take i rs)) ++ roL (roL [(ints w).shd])) ++ List.map ints (List.drop i rs)) = .sl true 1 (insS w rs).length ((insS w rs).map ints) := by
  have e1 : roL [(ints w).shd] = [ints w] := rfl
  have e2 : roL [ints w] = [ints w] := rfl
  have e3 : roL [] = [] := rfl
  rw [insS_len, insS_at, h]
  simp only [roL_app, roL_rows, e1, e2, e3, List.nil_append, List.map_append, List.map_cons, List.map_nil]
  congr 1
  omega
set_option maxHeartbeats 4000000 in
set_option maxRecDepth 100000 in
theorem l03Insert_ret (rs : List (List Int)) (w : List Int) (hr : rs.length ≤ 2 ^ 20) (hx : ∀ r ∈ rs, r.length < 2 ^ 62) (hw : w.length < 2 ^ 62) (hn : w ∉ rs) : Ret Tryd.prog G0 81 [⟨.mv, .one (.sl true 1 rs.length (rs.map ints))⟩, ⟨.ro, .one (ints w)⟩] ⟨.one (.sl true 1 (insS w rs).length ((insS w rs).map ints)), []⟩ := by
  (refine ret_of_den (E := en 49 [] (fun _ => [(0, 0), (5, 0), (1, 1)]) (fun _ => [])) tt_ok mixed Tryd.func81 rfl rfl rfl rfl ?_; refine ⟨by simp, ?_⟩)
  repeat' (first | ((first | refine opt_some (getC_rows rfl rfl (by omega)) ?_ | refine opt_some (by dsimp only; exact getC_lent rfl rfl (by omega)) ?_ | refine opt_some rfl ?_ | refine ⟨_, (by simp only [nf, nl, nm, en, ints, setC_setC, Nat.reduceAdd, Nat.reduceMul]; exact rfl), ?_⟩ | refine ⟨_, pickT rfl, ?_⟩ | refine ⟨_, rfl, ?_⟩ | refine iteP_true rfl ?_ | refine iteP_false rfl ?_ | refine iteP_true ‹_› ?_ | refine iteP_false ‹_› ?_ | refine andK ?_ | refine andA ?_ | refine andT ?_); conv => whnf) | (refine iteP_intro (fun hb => ?_) (fun hb => ?_) <;> (conv => whnf)))
  refine ⟨fun k vs => ∃ i : Nat, i ≤ rs.length ∧ insP w rs = i + insP w (rs.drop i) ∧ vs = [.one (.sl true 1 rs.length (rs.map ints)), .one (i64 i), .one (.shd (ints w))] ∧ k = rs.length - i, rfl, ⟨_, 0, by omega, by simp, rfl, rfl⟩, ?_⟩
  rintro k vs ⟨i, hi, hc, rfl, rfl⟩
  repeat (first | ((first | refine opt_some (getC_rows rfl rfl (by omega)) ?_ | refine opt_some (by dsimp only; exact getC_lent rfl rfl (by omega)) ?_ | refine opt_some rfl ?_ | refine ⟨_, (by simp only [nf, nl, nm, en, ints, setC_setC, Nat.reduceAdd, Nat.reduceMul]; exact rfl), ?_⟩ | refine ⟨_, pickT rfl, ?_⟩ | refine ⟨_, rfl, ?_⟩ | refine iteP_true rfl ?_ | refine iteP_false rfl ?_ | refine iteP_true ‹_› ?_ | refine iteP_false ‹_› ?_ | refine andK ?_ | refine andA ?_ | refine andT ?_); conv => whnf))
  refine iteP_intro (fun hb => ?_) (fun hb => ?_) <;> (conv => whnf)
  · have hi' : i < rs.length := by have := leT hb; omega
    have hne : rs[i] ≠ w := fun e => hn (e ▸ List.getElem_mem hi')
    rw [insP_step hi'] at hc
    repeat (first | ((first | refine opt_some (getC_rows rfl rfl (by omega)) ?_ | refine opt_some (by dsimp only; exact getC_lent rfl rfl (by omega)) ?_ | refine opt_some rfl ?_ | refine ⟨_, (by simp only [nf, nl, nm, en, ints, setC_setC, Nat.reduceAdd, Nat.reduceMul]; exact rfl), ?_⟩ | refine ⟨_, pickT rfl, ?_⟩ | refine ⟨_, rfl, ?_⟩ | refine iteP_true rfl ?_ | refine iteP_false rfl ?_ | refine iteP_true ‹_› ?_ | refine iteP_false ‹_› ?_ | refine andK ?_ | refine andA ?_ | refine andT ?_); conv => whnf))
    (refine ⟨_, l01Less_ret rs[i] w (hx _ (List.getElem_mem hi')) hw, ?_⟩; conv => whnf)
    repeat (first | ((first | refine opt_some (getC_rows rfl rfl (by omega)) ?_ | refine opt_some (by dsimp only; exact getC_lent rfl rfl (by omega)) ?_ | refine opt_some rfl ?_ | refine ⟨_, (by simp only [nf, nl, nm, en, ints, setC_setC, Nat.reduceAdd, Nat.reduceMul]; exact rfl), ?_⟩ | refine ⟨_, pickT rfl, ?_⟩ | refine ⟨_, rfl, ?_⟩ | refine iteP_true rfl ?_ | refine iteP_false rfl ?_ | refine iteP_true ‹_› ?_ | refine iteP_false ‹_› ?_ | refine andK ?_ | refine andA ?_ | refine andT ?_); conv => whnf))
    refine iteP_intro (fun hl => ?_) (fun hl => ?_) <;> (conv => whnf)
    · rw [if_pos hl] at hc
      repeat (first | ((first | refine opt_some (getC_rows rfl rfl (by omega)) ?_ | refine opt_some (by dsimp only; exact getC_lent rfl rfl (by omega)) ?_ | refine opt_some rfl ?_ | refine ⟨_, (by simp only [nf, nl, nm, en, ints, setC_setC, Nat.reduceAdd, Nat.reduceMul]; exact rfl), ?_⟩ | refine ⟨_, pickT rfl, ?_⟩ | refine ⟨_, rfl, ?_⟩ | refine iteP_true rfl ?_ | refine iteP_false rfl ?_ | refine iteP_true ‹_› ?_ | refine iteP_false ‹_› ?_ | refine andK ?_ | refine andA ?_ | refine andT ?_); conv => whnf))
      refine ⟨_, ?_, i + 1, hi', by omega, by rw [wrap_succ (by omega)]; rfl, rfl⟩
      omega
    · rw [if_neg (by rw [hl]; simp)] at hc
      have hlt : decide ((i : Int) < rs.length) = true := decide_eq_true (by omega)
      have t1 := cut_hiR (xs := rs) (i := i) (by omega)
      have t2 := cut_loR (xs := rs) (i := i)
      repeat (first | ((first | refine opt_some (getC_rows rfl rfl (by omega)) ?_ | refine opt_some (by dsimp only; exact getC_lent rfl rfl (by omega)) ?_ | refine opt_some rfl ?_ | refine ⟨_, (by simp only [nf, nl, nm, en, ints, setC_setC, Nat.reduceAdd, Nat.reduceMul, hlt]; exact rfl), ?_⟩ | refine ⟨_, pickT rfl, ?_⟩ | refine ⟨_, rfl, ?_⟩ | refine iteP_true rfl ?_ | refine iteP_false rfl ?_ | refine iteP_true ‹_› ?_ | refine iteP_false ‹_› ?_ | refine andK ?_ | refine andA ?_ | refine andT ?_); conv => whnf))
      (refine ⟨_, l01Same_ret rs[i] w (hx _ (List.getElem_mem hi')), ?_⟩; conv => whnf)
      rw [decide_eq_false hne]
      repeat' (first | ((first | refine opt_some (getC_rows rfl rfl (by omega)) ?_ | refine opt_some (by dsimp only; exact getC_lent rfl rfl (by omega)) ?_ | refine opt_some rfl ?_ | refine ⟨_, (by simp only [nf, nl, nm, en, ints, setC_setC, Nat.reduceAdd, Nat.reduceMul, t1, t2]; exact rfl), ?_⟩ | refine ⟨_, pickT rfl, ?_⟩ | refine ⟨_, rfl, ?_⟩ | refine iteP_true rfl ?_ | refine iteP_false rfl ?_ | refine iteP_true ‹_› ?_ | refine iteP_false ‹_› ?_ | refine andK ?_ | refine andA ?_ | refine andT ?_); conv => whnf) | (refine iteP_intro (fun hb => ?_) (fun hb => ?_) <;> (conv => whnf)))
      refine ⟨all_rows _, ?_⟩
      conv => whnf
      repeat' (first | ((first | refine opt_some (getC_rows rfl rfl (by omega)) ?_ | refine opt_some (by dsimp only; exact getC_lent rfl rfl (by omega)) ?_ | refine opt_some rfl ?_ | refine ⟨_, (by simp only [nf, nl, nm, en, ints, setC_setC, Nat.reduceAdd, Nat.reduceMul, t1, t2, roL_rows]; exact rfl), ?_⟩ | refine ⟨_, pickT rfl, ?_⟩ | refine ⟨_, rfl, ?_⟩ | refine iteP_true rfl ?_ | refine iteP_false rfl ?_ | refine iteP_true ‹_› ?_ | refine iteP_false ‹_› ?_ | refine andK ?_ | refine andA ?_ | refine andT ?_); conv => whnf) | (refine iteP_intro (fun hb => ?_) (fun hb => ?_) <;> (conv => whnf)))
      refine ⟨all_rows _, ?_⟩
      conv => whnf
      repeat' (first | ((first | refine opt_some (getC_rows rfl rfl (by omega)) ?_ | refine opt_some (by dsimp only; exact getC_lent rfl rfl (by omega)) ?_ | refine opt_some rfl ?_ | refine ⟨_, (by simp only [nf, nl, nm, en, ints, setC_setC, Nat.reduceAdd, Nat.reduceMul, roL_rows]; exact rfl), ?_⟩ | refine ⟨_, pickT rfl, ?_⟩ | refine ⟨_, rfl, ?_⟩ | refine iteP_true rfl ?_ | refine iteP_false rfl ?_ | refine iteP_true ‹_› ?_ | refine iteP_false ‹_› ?_ | refine andK ?_ | refine andA ?_ | refine andT ?_); conv => whnf) | (refine iteP_intro (fun hb => ?_) (fun hb => ?_) <;> (conv => whnf)))
      rw [← ins_fin (i := i) (by omega) (by omega)]
      rfl
  · obtain rfl : i = rs.length := by have := leF hb; omega
    have hlt : decide ((rs.length : Int) < rs.length) = false := decide_eq_false (by omega)
    have t1 := cut_hiR (xs := rs) (i := rs.length) (by omega)
    have t2 := cut_loR (xs := rs) (i := rs.length)
    repeat' (first | ((first | refine opt_some (getC_rows rfl rfl (by omega)) ?_ | refine opt_some (by dsimp only; exact getC_lent rfl rfl (by omega)) ?_ | refine opt_some rfl ?_ | refine ⟨_, (by simp only [nf, nl, nm, en, ints, setC_setC, Nat.reduceAdd, Nat.reduceMul, hlt, t1, t2]; exact rfl), ?_⟩ | refine ⟨_, pickT rfl, ?_⟩ | refine ⟨_, rfl, ?_⟩ | refine iteP_true rfl ?_ | refine iteP_false rfl ?_ | refine iteP_true ‹_› ?_ | refine iteP_false ‹_› ?_ | refine andK ?_ | refine andA ?_ | refine andT ?_); conv => whnf) | (refine iteP_intro (fun hb => ?_) (fun hb => ?_) <;> (conv => whnf)))
    refine ⟨all_rows _, ?_⟩
    conv => whnf
    repeat' (first | ((first | refine opt_some (getC_rows rfl rfl (by omega)) ?_ | refine opt_some (by dsimp only; exact getC_lent rfl rfl (by omega)) ?_ | refine opt_some rfl ?_ | refine ⟨_, (by simp only [nf, nl, nm, en, ints, setC_setC, Nat.reduceAdd, Nat.reduceMul, t1, t2, roL_rows]; exact rfl), ?_⟩ | refine ⟨_, pickT rfl, ?_⟩ | refine ⟨_, rfl, ?_⟩ | refine iteP_true rfl ?_ | refine iteP_false rfl ?_ | refine iteP_true ‹_› ?_ | refine iteP_false ‹_› ?_ | refine andK ?_ | refine andA ?_ | refine andT ?_); conv => whnf) | (refine iteP_intro (fun hb => ?_) (fun hb => ?_) <;> (conv => whnf)))
    rw [List.drop_eq_nil_of_le (Nat.le_refl _)] at hc
    rw [← ins_fin (i := rs.length) (by omega) (by rw [hc]; rfl)]
    rfl
/-- Words put into an ascending list one after the other. -/
def insL (rs : List (List Int)) : List (List Int) := rs.foldl (fun o w => insS w o) []
theorem insL_snoc (rs : List (List Int)) (w : List Int) : insL (rs ++ [w]) = insS w (insL rs) := by simp [insL]
theorem insL_perm : ∀ rs : List (List Int), (insL rs).Perm rs := fun rs => by
  have : ∀ (l o : List (List Int)), (l.foldl (fun o w => insS w o) o).Perm (o ++ l) := fun l => by
    induction l with
    | nil => intro o; simp
    | cons x l ih =>
      intro o
      rw [List.foldl_cons]
      refine (ih _).trans ?_
      refine ((insS_perm x o).append_right l).trans ?_
      simpa using (List.perm_middle (a := x) (l₁ := o) (l₂ := l)).symm
  have h := this rs []
  rw [List.nil_append] at h
  exact h
/-- The conjugates of a word in ascending order, and a code. -/
def conR (n : Int) (ds xs : List Int) : List (List Int) × Int :=
  if alphaOk n ds then (if wordN n xs then (if 1000 < (cjW (ds.map Int.toNat) (xs.map Int.toNat)).length then ([], 3) else (insL ((cjW (ds.map Int.toNat) (xs.map Int.toNat)).map natI), 0)) else ([], 2)) else ([], 1)
theorem conR_bad {n : Int} {ds xs : List Int} (h : alphaOk n ds = false) : conR n ds xs = ([], 1) := by
  unfold conR
  rw [if_neg (by rw [h]; simp)]
theorem conR_out {n : Int} {ds xs : List Int} (h : alphaOk n ds = true) (hw : wordN n xs = false) : conR n ds xs = ([], 2) := by
  unfold conR
  rw [if_pos h, if_neg (by rw [hw]; simp)]
theorem conR_in {n : Int} {ds xs : List Int} {ms w : List Nat} (h : alphaOk n ds = true) (hw : wordN n xs = true) (e1 : ds.map Int.toNat = ms) (e2 : xs.map Int.toNat = w) : conR n ds xs = if 1000 < (cjW ms w).length then ([], 3) else (insL ((cjW ms w).map natI), 0) := by
  unfold conR
  rw [if_pos h, if_pos hw, e1, e2]
theorem insL_len (rs : List (List Int)) : (insL rs).length = rs.length := (insL_perm rs).length_eq
/-- Rows that are shared, in a slice of one's own. -/
def rowsS (rs : List (List Int)) : Cell := .sl true 1 rs.length (rs.map ints)
set_option maxHeartbeats 4000000 in
set_option maxRecDepth 100000 in
theorem rowsS_nil : OLe nilS (rowsS []) := fun w Z v l h => by
  cases h
  exact .nil _ _ _
theorem empty_le : OLe (.sl false 1 0 []) (.sl true 1 0 []) := fun w Z v l h => by
  cases h with
  | sl hh hlen hroom hcap hmax hv hc =>
    cases hc
    exact .sls hh hlen hroom hcap hmax hv .nil
  | nil => exact .nil _ _ _
theorem conR_nz {n : Int} {ds xs : List Int} (h : (conR n ds xs).2 ≠ 0) : (conR n ds xs).1 = [] := by
  unfold conR at h ⊢
  split
  · next ha =>
    rw [if_pos ha] at h
    split
    · next hw =>
      rw [if_pos hw] at h
      split
      · rfl
      · next hb =>
        rw [if_neg hb] at h
        exact absurd rfl h
    · rfl
  · rfl
theorem conR_le (n : Int) (ds xs : List Int) : (conR n ds xs).2 ≠ 0 → OLe nilS (rowsS (conR n ds xs).1) := fun h => by
  rw [conR_nz h]
  exact rowsS_nil
theorem cjF_len {ms : List Nat} : ∀ (f i : Nat) {out : List (List Nat)}, out.length ≤ (cjF ms f i out).length
  | 0, _, _ => Nat.le_refl _
  | f + 1, i, out => by
    rw [cjF]
    split
    · obtain ⟨t, ht⟩ := cjI_pre (ms := ms) (r := out.getD i []) (out := out) ms.length
      refine Nat.le_trans ?_ (cjF_len f (i + 1))
      rw [ht, List.length_append]
      omega
    · exact Nat.le_refl _
theorem cjW_pos (ms w : List Nat) : 0 < (cjW ms w).length := Nat.lt_of_lt_of_le (by simp) (cjF_len 1001 0 (out := [nform ms w]))
theorem cjW_nodup (ms w : List Nat) : (cjW ms w).Nodup := cjF_nodup _ _ (by simp)
theorem natI_nodup {out : List (List Nat)} (h : out.Nodup) : (out.map natI).Nodup := List.Pairwise.map _ (fun a b hab e => hab (natI_inj e)) h
theorem cjF_all {ms : List Nat} {L : Nat} (hA : Alpha ms) : ∀ (f i : Nat) {out : List (List Nat)}, CjG ms L out → CjG ms L (cjF ms f i out)
  | 0, _, _, h => h
  | f + 1, i, out, h => by
    rw [cjF]
    split
    · next hh =>
      refine cjF_all hA f (i + 1) ⟨?_⟩
      have hm : out.getD i [] ∈ out := by
        rw [List.getD_eq_getElem?_getD, List.getElem?_eq_getElem hh.1, Option.getD_some]
        exact List.getElem_mem hh.1
      refine cjI_all (p := fun x => Wd ms x ∧ x.length = L) (fun a ha hc => ?_) h.ok _ (Nat.le_refl _)
      exact ⟨rotN_wd hA (h.ok _ hm).1 ha, by rw [rotN_len hA (h.ok _ hm).1 ha (canF_mem hc), (h.ok _ hm).2]⟩
    · exact h
theorem cjW_all {ms w : List Nat} (hA : Alpha ms) (hw : Wd ms w) : CjG ms w.length (cjW ms w) := cjF_all hA _ _ ⟨fun r hr => by
  rw [List.mem_singleton.1 hr]
  exact ⟨nform_wd hA hw, nform_length hA hw⟩⟩
end Go.Proofs.YtihdeagknggeiaaDoor
