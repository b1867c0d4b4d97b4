import Derived.Test.YtihdeagknggeiaaDoorFi
set_option autoImplicit false
set_option linter.unusedSimpArgs false
set_option linter.unusedVariables false
namespace Go.Proofs.YtihdeagknggeiaaDoor
open Go.Den
/-- Slices of slices of numbers. -/
def rowsI (rs : List (List Int)) : Cell := .sl false 1 rs.length (rs.map ints)
/-- The numbers in all rows. -/
def tot : List (List Int) → Nat
  | [] => 0
  | r :: rs => r.length + tot rs
theorem tot_take_succ {rs : List (List Int)} {i : Nat} (h : i < rs.length) : tot (rs.take (i + 1)) = tot (rs.take i) + rs[i].length := by
  induction rs generalizing i with
  | nil => simp at h
  | cons r rs ih =>
    cases i with
    | zero => simp [tot]
    | succ i =>
      have := ih (i := i) (by simpa using h)
      simp only [List.take_succ_cons, tot, List.getElem_cons_succ]
      omega
theorem tot_take_le (rs : List (List Int)) (i : Nat) : tot (rs.take i) ≤ tot rs := by
  induction rs generalizing i with
  | nil => simp [tot]
  | cons r rs ih =>
    cases i with
    | zero => simp [tot]
    | succ i =>
      have := ih i
      simp only [List.take_succ_cons, tot]
      omega
theorem tot_mem {rs : List (List Int)} {r : List Int} (h : r ∈ rs) : r.length ≤ tot rs := by
  induction rs with
  | nil => cases h
  | cons x rs ih =>
    rcases List.mem_cons.1 h with rfl | h
    · simp [tot]
    · have := ih h
      simp only [tot]
      omega
/-- Rows marked from m on. -/
def markR (m : Int) : List (List Int) → List (List Int)
  | [] => []
  | xs :: rs => marks m xs.length :: markR (m + xs.length) rs
theorem markR_length : ∀ (m : Int) (rs : List (List Int)), (markR m rs).length = rs.length
  | _, [] => rfl
  | m, xs :: rs => by simp [markR, markR_length (m + xs.length) rs]
theorem markR_get : ∀ {m : Int} {rs : List (List Int)} {i : Nat} (h : i < rs.length), (markR m rs)[i]? = some (marks (m + (tot (rs.take i) : Nat)) rs[i].length)
  | m, xs :: rs, 0, _ => by simp [markR, tot]
  | m, xs :: rs, i + 1, h => by
    have := markR_get (m := m + xs.length) (rs := rs) (i := i) (by simpa using h)
    simp only [markR, List.getElem?_cons_succ, List.getElem_cons_succ, List.take_succ_cons, tot]
    rw [this, show m + (xs.length : Int) + (tot (rs.take i) : Nat) = m + (xs.length + tot (rs.take i) : Nat) by simp; omega]
theorem tot_markR : ∀ (m : Int) (rs : List (List Int)), tot (markR m rs) = tot rs
  | _, [] => rfl
  | m, xs :: rs => by simp [markR, tot, tot_markR (m + xs.length) rs, marks_length]
/-- The first i rows are marked. -/
def mkR (m : Int) (rs : List (List Int)) (i : Nat) : List (List Int) := (markR m rs).take i ++ rs.drop i
theorem mkR_length {m : Int} {rs : List (List Int)} {i : Nat} (h : i ≤ rs.length) : (mkR m rs i).length = rs.length := by
  simp [mkR, markR_length]
  omega
theorem mkR_get {m : Int} {rs : List (List Int)} {i : Nat} (h : i < rs.length) (h2 : i < (mkR m rs i).length) : (mkR m rs i)[i] = rs[i] := by
  have hl : ((markR m rs).take i).length = i := by rw [List.length_take, markR_length]; omega
  have : (mkR m rs i)[i]? = rs[i]? := by
    unfold mkR
    rw [List.getElem?_append_right (by omega), hl, Nat.sub_self, List.getElem?_drop, Nat.add_zero]
  rw [List.getElem?_eq_getElem h2, List.getElem?_eq_getElem h] at this
  exact Option.some.inj this
theorem mkR_set {m : Int} {rs : List (List Int)} {i : Nat} {x : List Int} (h : i < rs.length) (hx : (markR m rs)[i]? = some x) : (mkR m rs i).set i x = mkR m rs (i + 1) := by
  have hl : ((markR m rs).take i).length = i := by rw [List.length_take, markR_length]; omega
  have hm : i < (markR m rs).length := by rw [markR_length]; exact h
  have hx' : (markR m rs)[i] = x := by
    rw [List.getElem?_eq_getElem hm] at hx
    exact Option.some.inj hx
  unfold mkR
  rw [List.set_append_right _ _ (by omega), hl, Nat.sub_self, List.drop_eq_getElem_cons h, List.set_cons_zero, List.take_succ_eq_append_getElem hm, hx', List.append_assoc]
  rfl
theorem mkR_all (m : Int) (rs : List (List Int)) : mkR m rs rs.length = markR m rs := by
  unfold mkR
  rw [List.drop_length, List.append_nil]
  conv => lhs; rw [← markR_length m rs]
  exact List.take_length
theorem mkR_zero (m : Int) (rs : List (List Int)) : mkR m rs 0 = rs := rfl
set_option maxHeartbeats 4000000 in
set_option maxRecDepth 100000 in
theorem eqSS_ret (a b : List (List Int)) (ha : a.length < 2 ^ 62) (hx : ∀ r ∈ a, r.length < 2 ^ 62) : Ret Tryd.prog G0 32 [⟨.ro, .one (rowsI a)⟩, ⟨.ro, .one (rowsI b)⟩] ⟨.one (.c (.bool (decide (a = b)))), []⟩ := by
  unfold rowsI
  (refine ret_of_den (E := en 27 [] (fun _ => [(5, 0), (0, 1), (1, 1)]) (fun _ => [])) tt_ok mixed Tryd.func32 rfl rfl rfl rfl ?_; refine ⟨by simp, ?_⟩)
  repeat' (first | ((first | refine opt_some (getC_rows rfl rfl (by omega)) ?_ | refine opt_some (by dsimp only; exact getC_lent rfl rfl (by omega)) ?_ | refine opt_some rfl ?_ | refine ⟨_, (by simp only [nf, nl, nm, en, ints, setC_setC, Nat.reduceAdd, Nat.reduceMul]; exact rfl), ?_⟩ | refine ⟨_, pickT rfl, ?_⟩ | refine ⟨_, rfl, ?_⟩ | refine iteP_true rfl ?_ | refine iteP_false rfl ?_ | refine iteP_true ‹_› ?_ | refine iteP_false ‹_› ?_ | refine andK ?_ | refine andA ?_ | refine andT ?_); conv => whnf) | (refine iteP_intro (fun hb => ?_) (fun hb => ?_) <;> (conv => whnf)))
  · have : a ≠ b := fun e => by simp [e] at hb
    exact endB (by simp [this])
  refine ⟨fun k vs => ∃ i : Nat, i ≤ a.length ∧ (∀ j < i, a[j]? = b[j]?) ∧ vs = [.one (i64 i), .one (.shd (rowsI a)), .one (.shd (rowsI b))] ∧ k = a.length - i, rfl, ⟨_, 0, by omega, by simp, rfl, rfl⟩, ?_⟩
  have hl : a.length = b.length := Int.natCast_inj.1 (neF hb)
  rintro k vs ⟨i, hi, hs, rfl, rfl⟩
  unfold rowsI
  repeat (first | ((first | refine opt_some (getC_rows rfl rfl (by omega)) ?_ | refine opt_some (by dsimp only; exact getC_lent rfl rfl (by omega)) ?_ | refine opt_some rfl ?_ | refine ⟨_, (by simp only [nf, nl, nm, en, ints, setC_setC, Nat.reduceAdd, Nat.reduceMul]; exact rfl), ?_⟩ | refine ⟨_, pickT rfl, ?_⟩ | refine ⟨_, rfl, ?_⟩ | refine iteP_true rfl ?_ | refine iteP_false rfl ?_ | refine iteP_true ‹_› ?_ | refine iteP_false ‹_› ?_ | refine andK ?_ | refine andA ?_ | refine andT ?_); conv => whnf))
  refine iteP_intro (fun hb => ?_) (fun hb => ?_) <;> (conv => whnf)
  · have hi' := ltT hb
    repeat (first | ((first | refine opt_some (getC_rows rfl rfl (by omega)) ?_ | refine opt_some (by dsimp only; exact getC_lent rfl rfl (by omega)) ?_ | refine opt_some rfl ?_ | refine ⟨_, (by simp only [nf, nl, nm, en, ints, setC_setC, Nat.reduceAdd, Nat.reduceMul]; exact rfl), ?_⟩ | refine ⟨_, pickT rfl, ?_⟩ | refine ⟨_, rfl, ?_⟩ | refine iteP_true rfl ?_ | refine iteP_false rfl ?_ | refine iteP_true ‹_› ?_ | refine iteP_false ‹_› ?_ | refine andK ?_ | refine andA ?_ | refine andT ?_); conv => whnf))
    (refine ⟨_, eq_ret a[i] b[i] (hx _ (List.getElem_mem hi')), ?_⟩; conv => whnf)
    repeat' (first | ((first | refine opt_some (getC_rows rfl rfl (by omega)) ?_ | refine opt_some (by dsimp only; exact getC_lent rfl rfl (by omega)) ?_ | refine opt_some rfl ?_ | refine ⟨_, (by simp only [nf, nl, nm, en, ints, setC_setC, Nat.reduceAdd, Nat.reduceMul]; exact rfl), ?_⟩ | refine ⟨_, pickT rfl, ?_⟩ | refine ⟨_, rfl, ?_⟩ | refine iteP_true rfl ?_ | refine iteP_false rfl ?_ | refine iteP_true ‹_› ?_ | refine iteP_false ‹_› ?_ | refine andK ?_ | refine andA ?_ | refine andT ?_); conv => whnf) | (refine iteP_intro (fun hb => ?_) (fun hb => ?_) <;> (conv => whnf)))
    · refine endB ?_
      have : a ≠ b := fun e => by subst e; simp at hb
      simp [this]
    · refine ⟨_, ?_, i + 1, hi', fun j hj => ?_, by rw [wrap_succ (by omega)]; rfl, rfl⟩
      · omega
      · rcases Nat.lt_succ_iff_lt_or_eq.1 hj with h | rfl
        · exact hs j h
        · rw [List.getElem?_eq_getElem hi', List.getElem?_eq_getElem (by omega)]
          simpa using hb
  · repeat' (first | ((first | refine opt_some (getC_rows rfl rfl (by omega)) ?_ | refine opt_some (by dsimp only; exact getC_lent rfl rfl (by omega)) ?_ | refine opt_some rfl ?_ | refine ⟨_, (by simp only [nf, nl, nm, en, ints, setC_setC, Nat.reduceAdd, Nat.reduceMul]; exact rfl), ?_⟩ | refine ⟨_, pickT rfl, ?_⟩ | refine ⟨_, rfl, ?_⟩ | refine iteP_true rfl ?_ | refine iteP_false rfl ?_ | refine iteP_true ‹_› ?_ | refine iteP_false ‹_› ?_ | refine andK ?_ | refine andA ?_ | refine andT ?_); conv => whnf) | (refine iteP_intro (fun hb => ?_) (fun hb => ?_) <;> (conv => whnf)))
    obtain rfl : i = a.length := Nat.le_antisymm hi (ltF hb)
    refine endB ?_
    have : a = b := List.ext_getElem? fun j => by
      by_cases hj : j < a.length
      · exact hs j hj
      · rw [List.getElem?_eq_none (by omega), List.getElem?_eq_none (by omega)]
    rw [this]; simp
set_option maxHeartbeats 4000000 in
set_option maxRecDepth 100000 in
theorem markSS_ret (rs : List (List Int)) (m : Int) (hl : rs.length < 2 ^ 29) (ht : tot rs < 2 ^ 29) (h0 : 0 ≤ m) (hm : m < 2 ^ 30) : Ret Tryd.prog G0 33 [⟨.mu, .one (rowsI rs)⟩, ⟨.ro, .one (i64 m)⟩] ⟨.one (i64 (m + tot rs)), [.one (rowsI (markR m rs))]⟩ := by
  unfold rowsI
  (refine ret_of_den (E := en 19 [] (fun _ => [(5, 0), (1, 0), (0, 0), (19, 2)]) (fun _ => [])) tt_ok mixed Tryd.func33 rfl rfl rfl rfl ?_; refine ⟨by simp, ?_⟩)
  repeat' (first | ((first | refine opt_some (getC_rows rfl rfl (by omega)) ?_ | refine opt_some (by dsimp only; exact getC_lent rfl rfl (by omega)) ?_ | refine opt_some rfl ?_ | refine ⟨_, (by simp only [nf, nl, nm, en, ints, setC_setC, Nat.reduceAdd, Nat.reduceMul]; exact rfl), ?_⟩ | refine ⟨_, pickT rfl, ?_⟩ | refine ⟨_, rfl, ?_⟩ | refine iteP_true rfl ?_ | refine iteP_false rfl ?_ | refine iteP_true ‹_› ?_ | refine iteP_false ‹_› ?_ | refine andK ?_ | refine andA ?_ | refine andT ?_); conv => whnf) | (refine iteP_intro (fun hb => ?_) (fun hb => ?_) <;> (conv => whnf)))
  refine ⟨fun k vs => ∃ i : Nat, i ≤ rs.length ∧ vs = [.one (i64 i), .one (i64 (m + (tot (rs.take i) : Nat))), .one (.sl false 1 rs.length ((mkR m rs i).map ints)), .dead] ∧ k = rs.length - i, rfl, ⟨_, 0, by omega, ?_, rfl⟩, ?_⟩
  · rw [mkR_zero, List.take_zero]
    simp only [tot]
    rw [show m + ((0 : Nat) : Int) = m by omega]
    rfl
  rintro k vs ⟨i, hi, rfl, rfl⟩
  have hml := mkR_length (m := m) hi
  repeat (first | ((first | refine opt_some (getC_rows rfl rfl (by omega)) ?_ | refine opt_some (by dsimp only; exact getC_lent rfl rfl (by omega)) ?_ | refine opt_some rfl ?_ | refine ⟨_, (by simp only [nf, nl, nm, en, ints, setC_setC, Nat.reduceAdd, Nat.reduceMul]; exact rfl), ?_⟩ | refine ⟨_, pickT rfl, ?_⟩ | refine ⟨_, rfl, ?_⟩ | refine iteP_true rfl ?_ | refine iteP_false rfl ?_ | refine iteP_true ‹_› ?_ | refine iteP_false ‹_› ?_ | refine andK ?_ | refine andA ?_ | refine andT ?_); conv => whnf))
  refine iteP_intro (fun hb => ?_) (fun hb => ?_) <;> (conv => whnf)
  · have hi' := ltT hb
    have hg := mkR_get (m := m) hi' (by omega)
    have hmg := markR_get (m := m) hi'
    have hts := tot_take_succ hi'
    have htl := tot_take_le rs (i + 1)
    repeat (first | ((first | refine opt_some (getC_rows rfl rfl (by omega)) ?_ | refine opt_some (by dsimp only; exact getC_lent rfl rfl (by omega)) ?_ | refine opt_some rfl ?_ | refine ⟨_, (by simp only [nf, nl, nm, en, ints, setC_setC, Nat.reduceAdd, Nat.reduceMul, hg]; exact rfl), ?_⟩ | refine ⟨_, pickT rfl, ?_⟩ | refine ⟨_, rfl, ?_⟩ | refine iteP_true rfl ?_ | refine iteP_false rfl ?_ | refine iteP_true ‹_› ?_ | refine iteP_false ‹_› ?_ | refine andK ?_ | refine andA ?_ | refine andT ?_); conv => whnf))
    (refine ⟨_, mark_ret _ (m + (tot (rs.take i) : Nat)) (by rw [hg]; omega) (by omega) (by omega), ?_⟩; conv => whnf)
    refine opt_some (by dsimp only; exact getC_lent rfl rfl (by omega)) ?_
    conv => whnf
    refine ⟨_, by simp only [nf, nl, nm, en, ints, setC_setC, Nat.reduceAdd, Nat.reduceMul]; rw [hg, setC_rows (f := ints) (v := marks (m + (tot (rs.take i) : Nat)) rs[i].length) rfl rfl (by simp [ints, marks_length]), mkR_set hi' hmg], ?_⟩
    conv => whnf
    repeat' (first | ((first | refine opt_some (getC_rows rfl rfl (by omega)) ?_ | refine opt_some (by dsimp only; exact getC_lent rfl rfl (by omega)) ?_ | refine opt_some rfl ?_ | refine ⟨_, (by simp only [nf, nl, nm, en, ints, setC_setC, Nat.reduceAdd, Nat.reduceMul, hg]; exact rfl), ?_⟩ | refine ⟨_, pickT rfl, ?_⟩ | refine ⟨_, rfl, ?_⟩ | refine iteP_true rfl ?_ | refine iteP_false rfl ?_ | refine iteP_true ‹_› ?_ | refine iteP_false ‹_› ?_ | refine andK ?_ | refine andA ?_ | refine andT ?_); conv => whnf) | (refine iteP_intro (fun hb => ?_) (fun hb => ?_) <;> (conv => whnf)))
    refine ⟨_, ?_, i + 1, hi', ?_, rfl⟩
    · omega
    · rw [wrap_succ (by omega), hts, show m + ((tot (rs.take i) + rs[i].length : Nat) : Int) = m + (tot (rs.take i) : Nat) + (rs[i].length : Nat) by omega]
      rfl
  · obtain rfl : i = rs.length := Nat.le_antisymm hi (ltF hb)
    rw [List.take_length, mkR_all]
    repeat' (first | ((first | refine opt_some (getC_rows rfl rfl (by omega)) ?_ | refine opt_some (by dsimp only; exact getC_lent rfl rfl (by omega)) ?_ | refine opt_some rfl ?_ | refine ⟨_, (by simp only [nf, nl, nm, en, ints, setC_setC, Nat.reduceAdd, Nat.reduceMul]; exact rfl), ?_⟩ | refine ⟨_, pickT rfl, ?_⟩ | refine ⟨_, rfl, ?_⟩ | refine iteP_true rfl ?_ | refine iteP_false rfl ?_ | refine iteP_true ‹_› ?_ | refine iteP_false ‹_› ?_ | refine andK ?_ | refine andA ?_ | refine andT ?_); conv => whnf) | (refine iteP_intro (fun hb => ?_) (fun hb => ?_) <;> (conv => whnf)))
    simp [resSV, isAggS, svLike, markR_length]
set_option maxHeartbeats 4000000 in
set_option maxRecDepth 100000 in
theorem heldSS_ret (rs : List (List Int)) (m : Int) (hl : rs.length < 2 ^ 29) (ht : tot rs < 2 ^ 29) (h0 : 0 ≤ m) (hm : m < 2 ^ 30) (h : rs = markR m rs) : Ret Tryd.prog G0 34 [⟨.ro, .one (rowsI rs)⟩, ⟨.ro, .one (i64 m)⟩] ⟨.one (i64 (m + tot rs)), []⟩ := by
  unfold rowsI
  (refine ret_of_den (E := en 21 [] (fun _ => [(5, 0), (1, 0), (0, 1)]) (fun _ => [])) tt_ok mixed Tryd.func34 rfl rfl rfl rfl ?_; refine ⟨by simp, ?_⟩)
  repeat' (first | ((first | refine opt_some (getC_rows rfl rfl (by omega)) ?_ | refine opt_some (by dsimp only; exact getC_lent rfl rfl (by omega)) ?_ | refine opt_some rfl ?_ | refine ⟨_, (by simp only [nf, nl, nm, en, ints, setC_setC, Nat.reduceAdd, Nat.reduceMul]; exact rfl), ?_⟩ | refine ⟨_, pickT rfl, ?_⟩ | refine ⟨_, rfl, ?_⟩ | refine iteP_true rfl ?_ | refine iteP_false rfl ?_ | refine iteP_true ‹_› ?_ | refine iteP_false ‹_› ?_ | refine andK ?_ | refine andA ?_ | refine andT ?_); conv => whnf) | (refine iteP_intro (fun hb => ?_) (fun hb => ?_) <;> (conv => whnf)))
  refine ⟨fun k vs => ∃ i : Nat, i ≤ rs.length ∧ vs = [.one (i64 i), .one (i64 (m + (tot (rs.take i) : Nat))), .one (.shd (.sl false 1 rs.length (rs.map ints)))] ∧ k = rs.length - i, rfl, ⟨_, 0, by omega, ?_, rfl⟩, ?_⟩
  · rw [List.take_zero]
    simp only [tot]
    rw [show m + ((0 : Nat) : Int) = m by omega]
    rfl
  rintro k vs ⟨i, hi, rfl, rfl⟩
  repeat (first | ((first | refine opt_some (getC_rows rfl rfl (by omega)) ?_ | refine opt_some (by dsimp only; exact getC_lent rfl rfl (by omega)) ?_ | refine opt_some rfl ?_ | refine ⟨_, (by simp only [nf, nl, nm, en, ints, setC_setC, Nat.reduceAdd, Nat.reduceMul]; exact rfl), ?_⟩ | refine ⟨_, pickT rfl, ?_⟩ | refine ⟨_, rfl, ?_⟩ | refine iteP_true rfl ?_ | refine iteP_false rfl ?_ | refine iteP_true ‹_› ?_ | refine iteP_false ‹_› ?_ | refine andK ?_ | refine andA ?_ | refine andT ?_); conv => whnf))
  refine iteP_intro (fun hb => ?_) (fun hb => ?_) <;> (conv => whnf)
  · have hi' := ltT hb
    have hmg := markR_get (m := m) hi'
    rw [← h, List.getElem?_eq_getElem hi'] at hmg
    have hts := tot_take_succ hi'
    have htl := tot_take_le rs (i + 1)
    repeat (first | ((first | refine opt_some (getC_rows rfl rfl (by omega)) ?_ | refine opt_some (by dsimp only; exact getC_lent rfl rfl (by omega)) ?_ | refine opt_some rfl ?_ | refine ⟨_, (by simp only [nf, nl, nm, en, ints, setC_setC, Nat.reduceAdd, Nat.reduceMul]; exact rfl), ?_⟩ | refine ⟨_, pickT rfl, ?_⟩ | refine ⟨_, rfl, ?_⟩ | refine iteP_true rfl ?_ | refine iteP_false rfl ?_ | refine iteP_true ‹_› ?_ | refine iteP_false ‹_› ?_ | refine andK ?_ | refine andA ?_ | refine andT ?_); conv => whnf))
    (refine ⟨_, held_ret rs[i] (m + (tot (rs.take i) : Nat)) (by omega) (by omega) (by omega) (Option.some.inj hmg), ?_⟩; conv => whnf)
    repeat' (first | ((first | refine opt_some (getC_rows rfl rfl (by omega)) ?_ | refine opt_some (by dsimp only; exact getC_lent rfl rfl (by omega)) ?_ | refine opt_some rfl ?_ | refine ⟨_, (by simp only [nf, nl, nm, en, ints, setC_setC, Nat.reduceAdd, Nat.reduceMul]; exact rfl), ?_⟩ | refine ⟨_, pickT rfl, ?_⟩ | refine ⟨_, rfl, ?_⟩ | refine iteP_true rfl ?_ | refine iteP_false rfl ?_ | refine iteP_true ‹_› ?_ | refine iteP_false ‹_› ?_ | refine andK ?_ | refine andA ?_ | refine andT ?_); conv => whnf) | (refine iteP_intro (fun hb => ?_) (fun hb => ?_) <;> (conv => whnf)))
    · exact absurd (leT hb) (by omega)
    refine ⟨_, ?_, i + 1, hi', ?_, rfl⟩
    · omega
    · rw [wrap_succ (by omega), hts, show m + ((tot (rs.take i) + rs[i].length : Nat) : Int) = m + (tot (rs.take i) : Nat) + (rs[i].length : Nat) by omega]
      rfl
  · obtain rfl : i = rs.length := Nat.le_antisymm hi (ltF hb)
    rw [List.take_length]
    repeat' (first | ((first | refine opt_some (getC_rows rfl rfl (by omega)) ?_ | refine opt_some (by dsimp only; exact getC_lent rfl rfl (by omega)) ?_ | refine opt_some rfl ?_ | refine ⟨_, (by simp only [nf, nl, nm, en, ints, setC_setC, Nat.reduceAdd, Nat.reduceMul]; exact rfl), ?_⟩ | refine ⟨_, pickT rfl, ?_⟩ | refine ⟨_, rfl, ?_⟩ | refine iteP_true rfl ?_ | refine iteP_false rfl ?_ | refine iteP_true ‹_› ?_ | refine iteP_false ‹_› ?_ | refine andK ?_ | refine andA ?_ | refine andT ?_); conv => whnf) | (refine iteP_intro (fun hb => ?_) (fun hb => ?_) <;> (conv => whnf)))
    rfl
theorem markR_idem : ∀ (m : Int) (rs : List (List Int)), markR m rs = markR m (markR m rs)
  | _, [] => rfl
  | m, xs :: rs => by
    simp only [markR, marks_length]
    rw [← markR_idem (m + xs.length) rs]
theorem tot_le {c : Nat} : ∀ {rs : List (List Int)}, (∀ r ∈ rs, r.length ≤ c) → tot rs ≤ rs.length * c
  | [], _ => by simp [tot]
  | r :: rs, h => by
    have h1 := tot_le (c := c) (rs := rs) fun x hx => h x (by simp [hx])
    have h2 := h r (by simp)
    simp only [tot, List.length_cons, Nat.succ_mul]
    omega
set_option maxHeartbeats 4000000 in
set_option maxRecDepth 100000 in
theorem heldSS_marks_ret (rs : List (List Int)) (m : Int) (hl : rs.length < 2 ^ 29) (ht : tot rs < 2 ^ 29) (h0 : 0 ≤ m) (hm : m < 2 ^ 30) : Ret Tryd.prog G0 34 [⟨.ro, .one (rowsI (markR m rs))⟩, ⟨.ro, .one (i64 m)⟩] ⟨.one (i64 (m + tot rs)), []⟩ := by
  have := heldSS_ret (markR m rs) m (by rw [markR_length]; exact hl) (by rw [tot_markR]; exact ht) h0 hm (markR_idem m rs)
  rwa [tot_markR] at this
end Go.Proofs.YtihdeagknggeiaaDoor
