import Derived.Test.YtpopepcmfanegaaDoorFzf
set_option autoImplicit false
set_option linter.unusedSimpArgs false
set_option linter.unusedVariables false
namespace Go.Proofs.YtpopepcmfanegaaDoor
open Go.Den
theorem pick_two {xs : List Cell} {i : Nat} {x y : Cell} (h1 : xs[i]? = some x) (h2 : xs[i + 1]? = some y) : pickN 2 (xs.drop i) = some [x, y] := by
  have hi := (List.getElem?_eq_some_iff.1 h1)
  have hj := (List.getElem?_eq_some_iff.1 h2)
  obtain ⟨hi, e1⟩ := hi
  obtain ⟨hj, e2⟩ := hj
  rw [List.drop_eq_getElem_cons hi, List.drop_eq_getElem_cons hj, e1, e2]
  rfl
set_option maxHeartbeats 4000000 in
set_option maxRecDepth 100000 in
theorem conj1_ret (a b v : List Int) (ha : a.length < 2 ^ 62) (hv : v.length < 2 ^ 62) : Ret Tryd.prog G0 151 [⟨.ro, .agg [ints a, ints b]⟩, ⟨.ro, .one (.ptr [ints v])⟩] ⟨.one (.c (.bool (decide (a = v)))), []⟩ := by
  have hE := equal_ret a v ha
  (refine ret_of_den (E := en 8 [] (fun _ => []) (fun _ => [])) tt_ok mixed Tryd.func151 rfl rfl rfl rfl ?_; refine ⟨by simp, ?_⟩)
  repeat' (first | ((first | refine opt_some (getC_rows rfl rfl (by omega)) ?_ | refine opt_some (by dsimp only; exact getC_lent rfl rfl (by omega)) ?_ | refine opt_some rfl ?_ | refine ⟨_, (by simp only [nf, nl, nm, en, ints, setC_setC, Nat.reduceAdd, Nat.reduceMul]; exact rfl), ?_⟩ | refine ⟨_, pickT rfl, ?_⟩ | refine ⟨_, rfl, ?_⟩ | refine iteP_true rfl ?_ | refine iteP_false rfl ?_ | refine iteP_true ‹_› ?_ | refine iteP_false ‹_› ?_ | refine andK ?_ | refine andA ?_ | refine andT ?_); conv => whnf) | (refine iteP_intro (fun hb => ?_) (fun hb => ?_) <;> (conv => whnf)))
  (refine ⟨_, hE, ?_⟩; conv => whnf)
  repeat' (first | ((first | refine opt_some (getC_rows rfl rfl (by omega)) ?_ | refine opt_some (by dsimp only; exact getC_lent rfl rfl (by omega)) ?_ | refine opt_some rfl ?_ | refine ⟨_, (by simp only [nf, nl, nm, en, ints, setC_setC, Nat.reduceAdd, Nat.reduceMul]; exact rfl), ?_⟩ | refine ⟨_, pickT rfl, ?_⟩ | refine ⟨_, rfl, ?_⟩ | refine iteP_true rfl ?_ | refine iteP_false rfl ?_ | refine iteP_true ‹_› ?_ | refine iteP_false ‹_› ?_ | refine andK ?_ | refine andA ?_ | refine andT ?_); conv => whnf) | (refine iteP_intro (fun hb => ?_) (fun hb => ?_) <;> (conv => whnf)))
  rfl
set_option maxHeartbeats 4000000 in
set_option maxRecDepth 100000 in
theorem conj1n_ret (a v : List Int) (ha : a.length < 2 ^ 62) (hv : v.length < 2 ^ 62) : Ret Tryd.prog G0 151 [⟨.ro, .agg [ints a, nilS]⟩, ⟨.ro, .one (.ptr [ints v])⟩] ⟨.one (.c (.bool (decide (a = v)))), []⟩ := by
  have hE := equal_ret a v ha
  (refine ret_of_den (E := en 8 [] (fun _ => []) (fun _ => [])) tt_ok mixed Tryd.func151 rfl rfl rfl rfl ?_; refine ⟨by simp, ?_⟩)
  repeat' (first | ((first | refine opt_some (getC_rows rfl rfl (by omega)) ?_ | refine opt_some (by dsimp only; exact getC_lent rfl rfl (by omega)) ?_ | refine opt_some rfl ?_ | refine ⟨_, (by simp only [nf, nl, nm, en, ints, setC_setC, Nat.reduceAdd, Nat.reduceMul]; exact rfl), ?_⟩ | refine ⟨_, pickT rfl, ?_⟩ | refine ⟨_, rfl, ?_⟩ | refine iteP_true rfl ?_ | refine iteP_false rfl ?_ | refine iteP_true ‹_› ?_ | refine iteP_false ‹_› ?_ | refine andK ?_ | refine andA ?_ | refine andT ?_); conv => whnf) | (refine iteP_intro (fun hb => ?_) (fun hb => ?_) <;> (conv => whnf)))
  (refine ⟨_, hE, ?_⟩; conv => whnf)
  repeat' (first | ((first | refine opt_some (getC_rows rfl rfl (by omega)) ?_ | refine opt_some (by dsimp only; exact getC_lent rfl rfl (by omega)) ?_ | refine opt_some rfl ?_ | refine ⟨_, (by simp only [nf, nl, nm, en, ints, setC_setC, Nat.reduceAdd, Nat.reduceMul]; exact rfl), ?_⟩ | refine ⟨_, pickT rfl, ?_⟩ | refine ⟨_, rfl, ?_⟩ | refine iteP_true rfl ?_ | refine iteP_false rfl ?_ | refine iteP_true ‹_› ?_ | refine iteP_false ‹_› ?_ | refine andK ?_ | refine andA ?_ | refine andT ?_); conv => whnf) | (refine iteP_intro (fun hb => ?_) (fun hb => ?_) <;> (conv => whnf)))
  rfl
set_option maxHeartbeats 4000000 in
set_option maxRecDepth 100000 in
theorem indexFT_ret (ps : List (List Nat × List Nat)) (v : List Nat) (hp : ps.length ≤ 1001) (hx : ∀ p ∈ ps, p.1.length ≤ 24) (hv : v.length ≤ 24) : Ret Tryd.prog G0 150 [⟨.ro, .one (.sl false 2 ps.length (tP ps))⟩, ⟨.ro, .one (.fn (.func 151) [.ptr [ints (natI v)]])⟩] ⟨.one (i64 (findI (fun w => decide (w = natI v)) (ps.map fun p => natI p.1) 0)), []⟩ := by
  have hvn := natI_length v
  (refine ret_of_den (E := en 19 [] (fun _ => [(7, 0), (8, 0), (0, 1), (1, 1)]) (fun _ => [])) tt_ok mixed Tryd.func150 rfl rfl rfl rfl ?_; refine ⟨by simp, ?_⟩)
  repeat' (first | ((first | refine opt_some (getC_rows rfl rfl (by omega)) ?_ | refine opt_some (by dsimp only; exact getC_lent rfl rfl (by omega)) ?_ | refine opt_some rfl ?_ | refine ⟨_, (by simp only [nf, nl, nm, en, ints, setC_setC, Nat.reduceAdd, Nat.reduceMul]; exact rfl), ?_⟩ | refine ⟨_, pickT rfl, ?_⟩ | refine ⟨_, rfl, ?_⟩ | refine iteP_true rfl ?_ | refine iteP_false rfl ?_ | refine iteP_true ‹_› ?_ | refine iteP_false ‹_› ?_ | refine andK ?_ | refine andA ?_ | refine andT ?_); conv => whnf) | (refine iteP_intro (fun hb => ?_) (fun hb => ?_) <;> (conv => whnf)))
  refine ⟨fun k vs => ∃ i : Nat, i ≤ ps.length ∧ findI (fun w => decide (w = natI v)) (ps.map fun p => natI p.1) 0 = findI (fun w => decide (w = natI v)) ((ps.map fun p => natI p.1).drop i) i ∧ vs = [.one (i64 ps.length), .one (i64 i), .one (.shd (.sl false 2 ps.length (tP ps))), .one (.shd (.fn (.func 151) [.ptr [ints (natI v)]]))] ∧ k = ps.length - i, rfl, ?_, ?_⟩
  · exact ⟨_, 0, by omega, by simp, rfl, rfl⟩
  rintro k vs ⟨i, hi, hf, rfl, rfl⟩
  repeat (first | ((first | refine opt_some (getC_rows rfl rfl (by omega)) ?_ | refine opt_some (by dsimp only; exact getC_lent rfl rfl (by omega)) ?_ | refine opt_some rfl ?_ | refine ⟨_, (by simp only [nf, nl, nm, en, ints, setC_setC, Nat.reduceAdd, Nat.reduceMul]; exact rfl), ?_⟩ | refine ⟨_, pickT rfl, ?_⟩ | refine ⟨_, rfl, ?_⟩ | refine iteP_true rfl ?_ | refine iteP_false rfl ?_ | refine iteP_true ‹_› ?_ | refine iteP_false ‹_› ?_ | refine andK ?_ | refine andA ?_ | refine andT ?_); conv => whnf))
  refine iteP_intro (fun hb => ?_) (fun hb => ?_) <;> (conv => whnf)
  · have hi' : i < ps.length := by have := leT hb; omega
    have hil : i < (ps.map fun p => natI p.1).length := by rw [List.length_map]; exact hi'
    have hR0 : ∃ r b, ps[i] = (r, b) := ⟨_, _, rfl⟩
    obtain ⟨r, b, hrb⟩ := hR0
    have hrl : r.length ≤ 24 := by have := hx ps[i] (List.getElem_mem hi'); rw [hrb] at this; exact this
    have hrn := natI_length r
    have hgi : (ps.map fun p => natI p.1)[i] = natI r := by rw [List.getElem_map, hrb]
    have h1 : (tP ps)[i * 2]? = some (ints (natI r)) := by rw [tP_word hi', hrb]
    by_cases hi0 : i = 0
    · have h2 : (tP ps)[i * 2 + 1]? = some nilS := by rw [tP_by hi', if_pos hi0]
      have hpk := pick_two h1 h2
      have hC := conj1n_ret (natI r) (natI v) (by omega) (by omega)
      repeat (first | ((first | refine opt_some (getC_rows rfl rfl (by omega)) ?_ | refine opt_some (by dsimp only; exact getC_lent rfl rfl (by omega)) ?_ | refine opt_some rfl ?_ | refine ⟨_, (by simp only [nf, nl, nm, en, ints, setC_setC, Nat.reduceAdd, Nat.reduceMul]; exact rfl), ?_⟩ | refine ⟨_, pickT rfl, ?_⟩ | refine ⟨_, rfl, ?_⟩ | refine iteP_true rfl ?_ | refine iteP_false rfl ?_ | refine iteP_true ‹_› ?_ | refine iteP_false ‹_› ?_ | refine andK ?_ | refine andA ?_ | refine andT ?_); conv => whnf))
      refine ⟨_, hpk, ?_⟩
      conv => whnf
      repeat (first | ((first | refine opt_some (getC_rows rfl rfl (by omega)) ?_ | refine opt_some (by dsimp only; exact getC_lent rfl rfl (by omega)) ?_ | refine opt_some rfl ?_ | refine ⟨_, (by simp only [nf, nl, nm, en, ints, setC_setC, Nat.reduceAdd, Nat.reduceMul]; exact rfl), ?_⟩ | refine ⟨_, pickT rfl, ?_⟩ | refine ⟨_, rfl, ?_⟩ | refine iteP_true rfl ?_ | refine iteP_false rfl ?_ | refine iteP_true ‹_› ?_ | refine iteP_false ‹_› ?_ | refine andK ?_ | refine andA ?_ | refine andT ?_); conv => whnf))
      (refine ⟨_, hC, ?_⟩; conv => whnf)
      repeat' (first | ((first | refine opt_some (getC_rows rfl rfl (by omega)) ?_ | refine opt_some (by dsimp only; exact getC_lent rfl rfl (by omega)) ?_ | refine opt_some rfl ?_ | refine ⟨_, (by simp only [nf, nl, nm, en, ints, setC_setC, Nat.reduceAdd, Nat.reduceMul]; exact rfl), ?_⟩ | refine ⟨_, pickT rfl, ?_⟩ | refine ⟨_, rfl, ?_⟩ | refine iteP_true rfl ?_ | refine iteP_false rfl ?_ | refine iteP_true ‹_› ?_ | refine iteP_false ‹_› ?_ | refine andK ?_ | refine andA ?_ | refine andT ?_); conv => whnf) | (refine iteP_intro (fun hb => ?_) (fun hb => ?_) <;> (conv => whnf)))
      · refine endI ?_
        rw [hf, findI_T hil (by rw [hgi]; exact hb)]
      · refine ⟨_, ?_, i + 1, hi', ?_, by rw [wrap_succ (by omega)]; rfl, rfl⟩
        · omega
        · rw [hf, findI_F hil (by rw [hgi]; exact hb)]
    · have h2 : (tP ps)[i * 2 + 1]? = some (ints (natI b)) := by rw [tP_by hi', if_neg hi0, hrb]
      have hpk := pick_two h1 h2
      have hC := conj1_ret (natI r) (natI b) (natI v) (by omega) (by omega)
      repeat (first | ((first | refine opt_some (getC_rows rfl rfl (by omega)) ?_ | refine opt_some (by dsimp only; exact getC_lent rfl rfl (by omega)) ?_ | refine opt_some rfl ?_ | refine ⟨_, (by simp only [nf, nl, nm, en, ints, setC_setC, Nat.reduceAdd, Nat.reduceMul]; exact rfl), ?_⟩ | refine ⟨_, pickT rfl, ?_⟩ | refine ⟨_, rfl, ?_⟩ | refine iteP_true rfl ?_ | refine iteP_false rfl ?_ | refine iteP_true ‹_› ?_ | refine iteP_false ‹_› ?_ | refine andK ?_ | refine andA ?_ | refine andT ?_); conv => whnf))
      refine ⟨_, hpk, ?_⟩
      conv => whnf
      repeat (first | ((first | refine opt_some (getC_rows rfl rfl (by omega)) ?_ | refine opt_some (by dsimp only; exact getC_lent rfl rfl (by omega)) ?_ | refine opt_some rfl ?_ | refine ⟨_, (by simp only [nf, nl, nm, en, ints, setC_setC, Nat.reduceAdd, Nat.reduceMul]; exact rfl), ?_⟩ | refine ⟨_, pickT rfl, ?_⟩ | refine ⟨_, rfl, ?_⟩ | refine iteP_true rfl ?_ | refine iteP_false rfl ?_ | refine iteP_true ‹_› ?_ | refine iteP_false ‹_› ?_ | refine andK ?_ | refine andA ?_ | refine andT ?_); conv => whnf))
      (refine ⟨_, hC, ?_⟩; conv => whnf)
      repeat' (first | ((first | refine opt_some (getC_rows rfl rfl (by omega)) ?_ | refine opt_some (by dsimp only; exact getC_lent rfl rfl (by omega)) ?_ | refine opt_some rfl ?_ | refine ⟨_, (by simp only [nf, nl, nm, en, ints, setC_setC, Nat.reduceAdd, Nat.reduceMul]; exact rfl), ?_⟩ | refine ⟨_, pickT rfl, ?_⟩ | refine ⟨_, rfl, ?_⟩ | refine iteP_true rfl ?_ | refine iteP_false rfl ?_ | refine iteP_true ‹_› ?_ | refine iteP_false ‹_› ?_ | refine andK ?_ | refine andA ?_ | refine andT ?_); conv => whnf) | (refine iteP_intro (fun hb => ?_) (fun hb => ?_) <;> (conv => whnf)))
      · refine endI ?_
        rw [hf, findI_T hil (by rw [hgi]; exact hb)]
      · refine ⟨_, ?_, i + 1, hi', ?_, by rw [wrap_succ (by omega)]; rfl, rfl⟩
        · omega
        · rw [hf, findI_F hil (by rw [hgi]; exact hb)]
  · have hie : i = ps.length := by have := leF hb; omega
    repeat' (first | ((first | refine opt_some (getC_rows rfl rfl (by omega)) ?_ | refine opt_some (by dsimp only; exact getC_lent rfl rfl (by omega)) ?_ | refine opt_some rfl ?_ | refine ⟨_, (by simp only [nf, nl, nm, en, ints, setC_setC, Nat.reduceAdd, Nat.reduceMul]; exact rfl), ?_⟩ | refine ⟨_, pickT rfl, ?_⟩ | refine ⟨_, rfl, ?_⟩ | refine iteP_true rfl ?_ | refine iteP_false rfl ?_ | refine iteP_true ‹_› ?_ | refine iteP_false ‹_› ?_ | refine andK ?_ | refine andA ?_ | refine andT ?_); conv => whnf) | (refine iteP_intro (fun hb => ?_) (fun hb => ?_) <;> (conv => whnf)))
    refine endI ?_
    rw [hf, List.drop_eq_nil_of_le (by rw [List.length_map]; omega)]
    simp [findI]
theorem findI_none {v : List Nat} {ps : List (List Nat × List Nat)} (h : v ∉ ps.map (·.1)) : ∀ k, findI (fun w => decide (w = natI v)) (ps.map fun p => natI p.1) k = -1 := fun k => by
  induction ps generalizing k with
  | nil => rfl
  | cons p ps ih =>
    rw [List.map_cons, findI, if_neg]
    · exact ih (fun hm => h (by rw [List.map_cons]; exact List.mem_cons_of_mem _ hm)) _
    · intro e
      exact h (by rw [List.map_cons, natI_inj (of_decide_eq_true e)]; simp)
theorem findI_some {v : List Nat} {ps : List (List Nat × List Nat)} (h : v ∈ ps.map (·.1)) : ∀ k, ∃ (i : Nat) (hi : i < ps.length), findI (fun w => decide (w = natI v)) (ps.map fun p => natI p.1) k = k + i ∧ ps[i].1 = v ∧ ∀ j (hj : j < i), ps[j].1 ≠ v := fun k => by
  induction ps generalizing k with
  | nil => cases h
  | cons p ps ih =>
    rw [List.map_cons, findI]
    by_cases e : p.1 = v
    · rw [if_pos (by rw [e]; simp)]
      exact ⟨0, by simp, by simp, e, fun j hj => by omega⟩
    · rw [if_neg (fun hh => e (natI_inj (of_decide_eq_true hh)))]
      obtain ⟨i, hi, h1, h2, h3⟩ := ih (by
        rw [List.map_cons] at h
        rcases List.mem_cons.1 h with h | h
        · exact absurd h.symm e
        · exact h) (k + 1)
      refine ⟨i + 1, by simpa using hi, by rw [h1]; omega, by simpa using h2, fun j hj => ?_⟩
      cases j with
      | zero => exact e
      | succ j => simpa using h3 j (by omega)
set_option maxHeartbeats 4000000 in
set_option maxRecDepth 100000 in
theorem conjN_ret (ps : List (List Nat × List Nat)) (v : List Nat) (hp : ps.length ≤ 1001) (hx : ∀ p ∈ ps, p.1.length ≤ 24) (hv : v.length ≤ 24) (hn : v ∉ ps.map (·.1)) : Ret Tryd.prog G0 102 [⟨.ro, .one (.sl false 2 ps.length (tP ps))⟩, ⟨.ro, .one (ints (natI v))⟩] ⟨.tup [(false, [nilS]), (false, [.c (.bool false)])], []⟩ := by
  have hI := indexFT_ret ps v hp hx hv
  rw [findI_none hn] at hI
  (refine ret_of_den (E := en 17 [] (fun _ => []) (fun _ => [])) tt_ok mixed Tryd.func102 rfl rfl rfl rfl ?_; refine ⟨by simp, ?_⟩)
  repeat' (first | ((first | refine opt_some (getC_rows rfl rfl (by omega)) ?_ | refine opt_some (by dsimp only; exact getC_lent rfl rfl (by omega)) ?_ | refine opt_some rfl ?_ | refine ⟨_, (by simp only [nf, nl, nm, en, ints, setC_setC, Nat.reduceAdd, Nat.reduceMul]; exact rfl), ?_⟩ | refine ⟨_, pickT rfl, ?_⟩ | refine ⟨_, rfl, ?_⟩ | refine iteP_true rfl ?_ | refine iteP_false rfl ?_ | refine iteP_true ‹_› ?_ | refine iteP_false ‹_› ?_ | refine andK ?_ | refine andA ?_ | refine andT ?_); conv => whnf) | (refine iteP_intro (fun hb => ?_) (fun hb => ?_) <;> (conv => whnf)))
  (refine ⟨_, hI, ?_⟩; conv => whnf)
  repeat' (first | ((first | refine opt_some (getC_rows rfl rfl (by omega)) ?_ | refine opt_some (by dsimp only; exact getC_lent rfl rfl (by omega)) ?_ | refine opt_some rfl ?_ | refine ⟨_, (by simp only [nf, nl, nm, en, ints, setC_setC, Nat.reduceAdd, Nat.reduceMul]; exact rfl), ?_⟩ | refine ⟨_, pickT rfl, ?_⟩ | refine ⟨_, rfl, ?_⟩ | refine iteP_true rfl ?_ | refine iteP_false rfl ?_ | refine iteP_true ‹_› ?_ | refine iteP_false ‹_› ?_ | refine andK ?_ | refine andA ?_ | refine andT ?_); conv => whnf) | (refine iteP_intro (fun hb => ?_) (fun hb => ?_) <;> (conv => whnf)))
  rfl
set_option maxHeartbeats 4000000 in
set_option maxRecDepth 100000 in
theorem conjS_ret (ps : List (List Nat × List Nat)) (v b : List Nat) (i : Nat) (hp : ps.length ≤ 1001) (hx : ∀ p ∈ ps, p.1.length ≤ 24) (hv : v.length ≤ 24) (hi : i < ps.length) (hb : ps[i] = (v, b)) (hf : ∀ j (hj : j < i), (ps[j]'(by omega)).1 ≠ v) : Ret Tryd.prog G0 102 [⟨.ro, .one (.sl false 2 ps.length (tP ps))⟩, ⟨.ro, .one (ints (natI v))⟩] ⟨.tup [(false, [if i = 0 then nilS else .shd (ints (natI b))]), (false, [.c (.bool true)])], []⟩ := by
  have hI := indexFT_ret ps v hp hx hv
  have hm : v ∈ ps.map (·.1) := List.mem_map.2 ⟨(v, b), by rw [← hb]; exact List.getElem_mem hi, rfl⟩
  obtain ⟨q, hq, h1, h2, h3⟩ := findI_some hm 0
  have hqi : q = i := by
    rcases Nat.lt_trichotomy q i with h | h | h
    · exact absurd h2 (hf q h)
    · exact h
    · exact absurd (by rw [hb]) (h3 i h)
  subst hqi
  rw [h1, Int.zero_add] at hI
  have hneg : decide ((q : Int) < 0) = false := decide_eq_false (by omega)
  by_cases hi0 : q = 0
  · have h2 : (tP ps)[q * 2 + 1]? = some nilS := by rw [tP_by hi, if_pos hi0]
    have hpk : pickN 1 (List.drop 1 (List.drop (q * 2) (tP ps))) = some [nilS] := by
      rw [List.drop_drop]
      exact pick_one h2
    have hln : 1 ≤ (List.drop (q * 2) (tP ps)).length := by rw [List.length_drop, tP_length]; omega
    rw [if_pos hi0]
    (refine ret_of_den (E := en 17 [] (fun _ => []) (fun _ => [])) tt_ok mixed Tryd.func102 rfl rfl rfl rfl ?_; refine ⟨by simp, ?_⟩)
    repeat' (first | ((first | refine opt_some (getC_rows rfl rfl (by omega)) ?_ | refine opt_some (by dsimp only; exact getC_lent rfl rfl (by omega)) ?_ | refine opt_some rfl ?_ | refine ⟨_, (by simp only [nf, nl, nm, en, ints, setC_setC, Nat.reduceAdd, Nat.reduceMul]; exact rfl), ?_⟩ | refine ⟨_, pickT rfl, ?_⟩ | refine ⟨_, rfl, ?_⟩ | refine iteP_true rfl ?_ | refine iteP_false rfl ?_ | refine iteP_true ‹_› ?_ | refine iteP_false ‹_› ?_ | refine andK ?_ | refine andA ?_ | refine andT ?_); conv => whnf) | (refine iteP_intro (fun hb => ?_) (fun hb => ?_) <;> (conv => whnf)))
    (refine ⟨_, hI, ?_⟩; conv => whnf)
    repeat' (first | ((first | refine opt_some (getC_rows rfl rfl (by omega)) ?_ | refine opt_some (by dsimp only; exact getC_lent rfl rfl (by omega)) ?_ | refine opt_some rfl ?_ | refine ⟨_, (by simp only [nf, nl, nm, en, ints, setC_setC, Nat.reduceAdd, Nat.reduceMul, hneg]; exact rfl), ?_⟩ | refine ⟨_, pickT rfl, ?_⟩ | refine ⟨_, rfl, ?_⟩ | refine iteP_true rfl ?_ | refine iteP_false rfl ?_ | refine iteP_true ‹_› ?_ | refine iteP_false ‹_› ?_ | refine andK ?_ | refine andA ?_ | refine andT ?_); conv => whnf) | (refine iteP_intro (fun hb => ?_) (fun hb => ?_) <;> (conv => whnf)))
    refine ⟨hln, ?_⟩
    conv => whnf
    repeat' (first | ((first | refine opt_some (getC_rows rfl rfl (by omega)) ?_ | refine opt_some (by dsimp only; exact getC_lent rfl rfl (by omega)) ?_ | refine opt_some rfl ?_ | refine ⟨_, (by simp only [nf, nl, nm, en, ints, setC_setC, Nat.reduceAdd, Nat.reduceMul]; exact rfl), ?_⟩ | refine ⟨_, pickT rfl, ?_⟩ | refine ⟨_, rfl, ?_⟩ | refine iteP_true rfl ?_ | refine iteP_false rfl ?_ | refine iteP_true ‹_› ?_ | refine iteP_false ‹_› ?_ | refine andK ?_ | refine andA ?_ | refine andT ?_); conv => whnf) | (refine iteP_intro (fun hb => ?_) (fun hb => ?_) <;> (conv => whnf)))
    refine ⟨_, hpk, ?_⟩
    conv => whnf
    repeat' (first | ((first | refine opt_some (getC_rows rfl rfl (by omega)) ?_ | refine opt_some (by dsimp only; exact getC_lent rfl rfl (by omega)) ?_ | refine opt_some rfl ?_ | refine ⟨_, (by simp only [nf, nl, nm, en, ints, setC_setC, Nat.reduceAdd, Nat.reduceMul]; exact rfl), ?_⟩ | refine ⟨_, pickT rfl, ?_⟩ | refine ⟨_, rfl, ?_⟩ | refine iteP_true rfl ?_ | refine iteP_false rfl ?_ | refine iteP_true ‹_› ?_ | refine iteP_false ‹_› ?_ | refine andK ?_ | refine andA ?_ | refine andT ?_); conv => whnf) | (refine iteP_intro (fun hb => ?_) (fun hb => ?_) <;> (conv => whnf)))
    rfl
  · have h2 : (tP ps)[q * 2 + 1]? = some (ints (natI b)) := by rw [tP_by hi, if_neg hi0, hb]
    have hpk : pickN 1 (List.drop 1 (List.drop (q * 2) (tP ps))) = some [ints (natI b)] := by
      rw [List.drop_drop]
      exact pick_one h2
    have hln : 1 ≤ (List.drop (q * 2) (tP ps)).length := by rw [List.length_drop, tP_length]; omega
    rw [if_neg hi0]
    (refine ret_of_den (E := en 17 [] (fun _ => []) (fun _ => [])) tt_ok mixed Tryd.func102 rfl rfl rfl rfl ?_; refine ⟨by simp, ?_⟩)
    repeat' (first | ((first | refine opt_some (getC_rows rfl rfl (by omega)) ?_ | refine opt_some (by dsimp only; exact getC_lent rfl rfl (by omega)) ?_ | refine opt_some rfl ?_ | refine ⟨_, (by simp only [nf, nl, nm, en, ints, setC_setC, Nat.reduceAdd, Nat.reduceMul]; exact rfl), ?_⟩ | refine ⟨_, pickT rfl, ?_⟩ | refine ⟨_, rfl, ?_⟩ | refine iteP_true rfl ?_ | refine iteP_false rfl ?_ | refine iteP_true ‹_› ?_ | refine iteP_false ‹_› ?_ | refine andK ?_ | refine andA ?_ | refine andT ?_); conv => whnf) | (refine iteP_intro (fun hb => ?_) (fun hb => ?_) <;> (conv => whnf)))
    (refine ⟨_, hI, ?_⟩; conv => whnf)
    repeat' (first | ((first | refine opt_some (getC_rows rfl rfl (by omega)) ?_ | refine opt_some (by dsimp only; exact getC_lent rfl rfl (by omega)) ?_ | refine opt_some rfl ?_ | refine ⟨_, (by simp only [nf, nl, nm, en, ints, setC_setC, Nat.reduceAdd, Nat.reduceMul, hneg]; exact rfl), ?_⟩ | refine ⟨_, pickT rfl, ?_⟩ | refine ⟨_, rfl, ?_⟩ | refine iteP_true rfl ?_ | refine iteP_false rfl ?_ | refine iteP_true ‹_› ?_ | refine iteP_false ‹_› ?_ | refine andK ?_ | refine andA ?_ | refine andT ?_); conv => whnf) | (refine iteP_intro (fun hb => ?_) (fun hb => ?_) <;> (conv => whnf)))
    refine ⟨hln, ?_⟩
    conv => whnf
    repeat' (first | ((first | refine opt_some (getC_rows rfl rfl (by omega)) ?_ | refine opt_some (by dsimp only; exact getC_lent rfl rfl (by omega)) ?_ | refine opt_some rfl ?_ | refine ⟨_, (by simp only [nf, nl, nm, en, ints, setC_setC, Nat.reduceAdd, Nat.reduceMul]; exact rfl), ?_⟩ | refine ⟨_, pickT rfl, ?_⟩ | refine ⟨_, rfl, ?_⟩ | refine iteP_true rfl ?_ | refine iteP_false rfl ?_ | refine iteP_true ‹_› ?_ | refine iteP_false ‹_› ?_ | refine andK ?_ | refine andA ?_ | refine andT ?_); conv => whnf) | (refine iteP_intro (fun hb => ?_) (fun hb => ?_) <;> (conv => whnf)))
    refine ⟨_, hpk, ?_⟩
    conv => whnf
    repeat' (first | ((first | refine opt_some (getC_rows rfl rfl (by omega)) ?_ | refine opt_some (by dsimp only; exact getC_lent rfl rfl (by omega)) ?_ | refine opt_some rfl ?_ | refine ⟨_, (by simp only [nf, nl, nm, en, ints, setC_setC, Nat.reduceAdd, Nat.reduceMul]; exact rfl), ?_⟩ | refine ⟨_, pickT rfl, ?_⟩ | refine ⟨_, rfl, ?_⟩ | refine iteP_true rfl ?_ | refine iteP_false rfl ?_ | refine iteP_true ‹_› ?_ | refine iteP_false ‹_› ?_ | refine andK ?_ | refine andA ?_ | refine andT ?_); conv => whnf) | (refine iteP_intro (fun hb => ?_) (fun hb => ?_) <;> (conv => whnf)))
    rfl
theorem cjI_of (ms w : List Nat) (hA : Alpha ms) (hw : Wd ms w) : CjG ms w.length ((pcW ms w).map (·.1)) := by
  rw [pcW_fst]
  exact cjW_all hA hw
set_option maxHeartbeats 4000000 in
set_option maxRecDepth 100000 in
theorem conjugates_ret (ms w : List Nat) (hA : Alpha ms) (hl : ms.length ≤ 8) (hw : Wd ms w) (hx : w.length ≤ 24) : Ret Tryd.prog G0 149 [⟨.ro, .one (ints (natI ms))⟩, ⟨.ro, .one (ints (natI w))⟩] ⟨.one (.sl false 2 (pcW ms w).length (tP (pcW ms w))), []⟩ := by
  obtain ⟨r, ⟨ps, rfl, rfl, -, -⟩, h⟩ := conjugates_ex ms w hA hl hw hx
  exact h
/-- The code of a search among conjugates. -/
def chkC (n : Int) (ds xs ys : List Int) : Int := if alphaOk n ds then (if wordN n xs && wordN n ys then (if 1000 < (pcW (ds.map Int.toNat) (xs.map Int.toNat)).length then 3 else 0) else 2) else 1
set_option maxHeartbeats 4000000 in
set_option maxRecDepth 100000 in
theorem chkBad_ret (n : Int) (ds xs ys : List Int) (hd : ds.length < 2 ^ 62) (hx : xs.length < 2 ^ 62) (hy : ys.length < 2 ^ 62) (h0 : chkC n ds xs ys ≠ 0) : Ret Tryd.prog G0 101 [⟨.ro, .agg [i64 n, ints ds]⟩, ⟨.ro, .one (ints xs)⟩, ⟨.ro, .one (rowsI [ys])⟩] ⟨.tup [(false, [nilS]), (false, [i64 (chkC n ds xs ys)])], []⟩ := by
  have hcw := checkWords_ret n ds [xs, ys] hd (by simp) (by simp; omega)
  simp only [List.all_cons, List.all_nil, Bool.and_true] at hcw
  unfold rowsI at *
  cases h1 : alphaOk n ds with
  | false =>
    have e : chkC n ds xs ys = 1 := by unfold chkC; rw [if_neg (by rw [h1]; simp)]
    rw [h1, show wcode false (wordN n xs && wordN n ys) = 1 from rfl] at hcw
    rw [e]
    (refine ret_of_den (E := en 27 [] (fun _ => []) (fun _ => [])) tt_ok mixed Tryd.func101 rfl rfl rfl rfl ?_; refine ⟨by simp, ?_⟩)
    repeat' (first | ((first | refine opt_some (getC_rows rfl rfl (by omega)) ?_ | refine opt_some (by dsimp only; exact getC_lent rfl rfl (by omega)) ?_ | refine opt_some rfl ?_ | refine ⟨_, (by simp only [nf, nl, nm, en, ints, setC_setC, Nat.reduceAdd, Nat.reduceMul]; exact rfl), ?_⟩ | refine ⟨_, pickT rfl, ?_⟩ | refine ⟨_, rfl, ?_⟩ | refine iteP_true rfl ?_ | refine iteP_false rfl ?_ | refine iteP_true ‹_› ?_ | refine iteP_false ‹_› ?_ | refine andK ?_ | refine andA ?_ | refine andT ?_); conv => whnf) | (refine iteP_intro (fun hb => ?_) (fun hb => ?_) <;> (conv => whnf)))
    (refine ⟨_, hcw, ?_⟩; conv => whnf)
    repeat' (first | ((first | refine opt_some (getC_rows rfl rfl (by omega)) ?_ | refine opt_some (by dsimp only; exact getC_lent rfl rfl (by omega)) ?_ | refine opt_some rfl ?_ | refine ⟨_, (by simp only [nf, nl, nm, en, ints, setC_setC, Nat.reduceAdd, Nat.reduceMul]; exact rfl), ?_⟩ | refine ⟨_, pickT rfl, ?_⟩ | refine ⟨_, rfl, ?_⟩ | refine iteP_true rfl ?_ | refine iteP_false rfl ?_ | refine iteP_true ‹_› ?_ | refine iteP_false ‹_› ?_ | refine andK ?_ | refine andA ?_ | refine andT ?_); conv => whnf) | (refine iteP_intro (fun hb => ?_) (fun hb => ?_) <;> (conv => whnf)))
    rfl
  | true =>
    cases h2 : (wordN n xs && wordN n ys) with
    | false =>
      have e : chkC n ds xs ys = 2 := by unfold chkC; rw [if_pos h1, if_neg (by rw [h2]; simp)]
      rw [h1, h2, show wcode true false = 2 from rfl] at hcw
      rw [e]
      (refine ret_of_den (E := en 27 [] (fun _ => []) (fun _ => [])) tt_ok mixed Tryd.func101 rfl rfl rfl rfl ?_; refine ⟨by simp, ?_⟩)
      repeat' (first | ((first | refine opt_some (getC_rows rfl rfl (by omega)) ?_ | refine opt_some (by dsimp only; exact getC_lent rfl rfl (by omega)) ?_ | refine opt_some rfl ?_ | refine ⟨_, (by simp only [nf, nl, nm, en, ints, setC_setC, Nat.reduceAdd, Nat.reduceMul]; exact rfl), ?_⟩ | refine ⟨_, pickT rfl, ?_⟩ | refine ⟨_, rfl, ?_⟩ | refine iteP_true rfl ?_ | refine iteP_false rfl ?_ | refine iteP_true ‹_› ?_ | refine iteP_false ‹_› ?_ | refine andK ?_ | refine andA ?_ | refine andT ?_); conv => whnf) | (refine iteP_intro (fun hb => ?_) (fun hb => ?_) <;> (conv => whnf)))
      (refine ⟨_, hcw, ?_⟩; conv => whnf)
      repeat' (first | ((first | refine opt_some (getC_rows rfl rfl (by omega)) ?_ | refine opt_some (by dsimp only; exact getC_lent rfl rfl (by omega)) ?_ | refine opt_some rfl ?_ | refine ⟨_, (by simp only [nf, nl, nm, en, ints, setC_setC, Nat.reduceAdd, Nat.reduceMul]; exact rfl), ?_⟩ | refine ⟨_, pickT rfl, ?_⟩ | refine ⟨_, rfl, ?_⟩ | refine iteP_true rfl ?_ | refine iteP_false rfl ?_ | refine iteP_true ‹_› ?_ | refine iteP_false ‹_› ?_ | refine andK ?_ | refine andA ?_ | refine andT ?_); conv => whnf) | (refine iteP_intro (fun hb => ?_) (fun hb => ?_) <;> (conv => whnf)))
      rfl
    | true =>
      rw [h1, h2, show wcode true true = 0 from rfl] at hcw
      have h3 := h2
      rw [Bool.and_eq_true] at h3
      obtain ⟨ms, e1, rfl, rfl, hl, hA⟩ := alpha_ok h1
      obtain ⟨w, e2, rfl, hwl, hwc⟩ := word_nat h3.1
      have hwd := word_wd hwc
      have e : chkC ms.length (natI ms) (natI w) ys = if 1000 < (pcW ms w).length then 3 else 0 := by unfold chkC; rw [if_pos h1, if_pos h2, e1, e2]
      rw [e] at h0 ⊢
      by_cases hb : 1000 < (pcW ms w).length
      · rw [if_pos hb]
        have hC := conjugates_ret ms w hA hl hwd hwl
        have hti := ties_ret ms.length (natI ms)
        (refine ret_of_den (E := en 27 [] (fun _ => []) (fun _ => [])) tt_ok mixed Tryd.func101 rfl rfl rfl rfl ?_; refine ⟨by simp, ?_⟩)
        repeat' (first | ((first | refine opt_some (getC_rows rfl rfl (by omega)) ?_ | refine opt_some (by dsimp only; exact getC_lent rfl rfl (by omega)) ?_ | refine opt_some rfl ?_ | refine ⟨_, (by simp only [nf, nl, nm, en, ints, setC_setC, Nat.reduceAdd, Nat.reduceMul]; exact rfl), ?_⟩ | refine ⟨_, pickT rfl, ?_⟩ | refine ⟨_, rfl, ?_⟩ | refine iteP_true rfl ?_ | refine iteP_false rfl ?_ | refine iteP_true ‹_› ?_ | refine iteP_false ‹_› ?_ | refine andK ?_ | refine andA ?_ | refine andT ?_); conv => whnf) | (refine iteP_intro (fun hb => ?_) (fun hb => ?_) <;> (conv => whnf)))
        (refine ⟨_, hcw, ?_⟩; conv => whnf)
        repeat' (first | ((first | refine opt_some (getC_rows rfl rfl (by omega)) ?_ | refine opt_some (by dsimp only; exact getC_lent rfl rfl (by omega)) ?_ | refine opt_some rfl ?_ | refine ⟨_, (by simp only [nf, nl, nm, en, ints, setC_setC, Nat.reduceAdd, Nat.reduceMul]; exact rfl), ?_⟩ | refine ⟨_, pickT rfl, ?_⟩ | refine ⟨_, rfl, ?_⟩ | refine iteP_true rfl ?_ | refine iteP_false rfl ?_ | refine iteP_true ‹_› ?_ | refine iteP_false ‹_› ?_ | refine andK ?_ | refine andA ?_ | refine andT ?_); conv => whnf) | (refine iteP_intro (fun hb => ?_) (fun hb => ?_) <;> (conv => whnf)))
        (refine ⟨_, hti, ?_⟩; conv => whnf)
        repeat' (first | ((first | refine opt_some (getC_rows rfl rfl (by omega)) ?_ | refine opt_some (by dsimp only; exact getC_lent rfl rfl (by omega)) ?_ | refine opt_some rfl ?_ | refine ⟨_, (by simp only [nf, nl, nm, en, ints, setC_setC, Nat.reduceAdd, Nat.reduceMul]; exact rfl), ?_⟩ | refine ⟨_, pickT rfl, ?_⟩ | refine ⟨_, rfl, ?_⟩ | refine iteP_true rfl ?_ | refine iteP_false rfl ?_ | refine iteP_true ‹_› ?_ | refine iteP_false ‹_› ?_ | refine andK ?_ | refine andA ?_ | refine andT ?_); conv => whnf) | (refine iteP_intro (fun hb => ?_) (fun hb => ?_) <;> (conv => whnf)))
        (refine ⟨_, hC, ?_⟩; conv => whnf)
        repeat' (first | ((first | refine opt_some (getC_rows rfl rfl (by omega)) ?_ | refine opt_some (by dsimp only; exact getC_lent rfl rfl (by omega)) ?_ | refine opt_some rfl ?_ | refine ⟨_, (by simp only [nf, nl, nm, en, ints, setC_setC, Nat.reduceAdd, Nat.reduceMul]; exact rfl), ?_⟩ | refine ⟨_, pickT rfl, ?_⟩ | refine ⟨_, rfl, ?_⟩ | refine iteP_true rfl ?_ | refine iteP_false rfl ?_ | refine iteP_true ‹_› ?_ | refine iteP_false ‹_› ?_ | refine andK ?_ | refine andA ?_ | refine andT ?_); conv => whnf) | (refine iteP_intro (fun hb => ?_) (fun hb => ?_) <;> (conv => whnf)))
        · rfl
        · exact absurd (leF ‹_›) (by omega)
      · rw [if_neg hb] at h0
        exact absurd rfl h0
set_option maxHeartbeats 4000000 in
set_option maxRecDepth 100000 in
theorem chkGood_ret (ms w v : List Nat) (hl : ms.length ≤ 8) (hA : Alpha ms) (hok : alphaOk ms.length (natI ms) = true) (hw : Wd ms w) (hv : Wd ms v) (hx : w.length ≤ 24) (hy : v.length ≤ 24) (hs : (pcW ms w).length ≤ 1000) : Ret Tryd.prog G0 101 [⟨.ro, .agg [i64 ms.length, ints (natI ms)]⟩, ⟨.ro, .one (ints (natI w))⟩, ⟨.ro, .one (rowsI [natI v])⟩] ⟨.tup [(false, [.sl false 2 (pcW ms w).length (tP (pcW ms w))]), (false, [i64 0])], []⟩ := by
  have hml := natI_length ms
  have hwl := natI_length w
  have hvl := natI_length v
  have hcw := checkWords_ret ms.length (natI ms) [natI w, natI v] (by omega) (by simp) (by simp; omega)
  rw [hok, wcode_t] at hcw
  simp only [List.all_cons, List.all_nil, wordN_of hw hx, wordN_of hv hy, Bool.and_true] at hcw
  have hC := conjugates_ret ms w hA hl hw hx
  have hti := ties_ret ms.length (natI ms)
  unfold rowsI at *
  (refine ret_of_den (E := en 27 [] (fun _ => []) (fun _ => [])) tt_ok mixed Tryd.func101 rfl rfl rfl rfl ?_; refine ⟨by simp, ?_⟩)
  repeat' (first | ((first | refine opt_some (getC_rows rfl rfl (by omega)) ?_ | refine opt_some (by dsimp only; exact getC_lent rfl rfl (by omega)) ?_ | refine opt_some rfl ?_ | refine ⟨_, (by simp only [nf, nl, nm, en, ints, setC_setC, Nat.reduceAdd, Nat.reduceMul]; exact rfl), ?_⟩ | refine ⟨_, pickT rfl, ?_⟩ | refine ⟨_, rfl, ?_⟩ | refine iteP_true rfl ?_ | refine iteP_false rfl ?_ | refine iteP_true ‹_› ?_ | refine iteP_false ‹_› ?_ | refine andK ?_ | refine andA ?_ | refine andT ?_); conv => whnf) | (refine iteP_intro (fun hb => ?_) (fun hb => ?_) <;> (conv => whnf)))
  (refine ⟨_, hcw, ?_⟩; conv => whnf)
  repeat' (first | ((first | refine opt_some (getC_rows rfl rfl (by omega)) ?_ | refine opt_some (by dsimp only; exact getC_lent rfl rfl (by omega)) ?_ | refine opt_some rfl ?_ | refine ⟨_, (by simp only [nf, nl, nm, en, ints, setC_setC, Nat.reduceAdd, Nat.reduceMul]; exact rfl), ?_⟩ | refine ⟨_, pickT rfl, ?_⟩ | refine ⟨_, rfl, ?_⟩ | refine iteP_true rfl ?_ | refine iteP_false rfl ?_ | refine iteP_true ‹_› ?_ | refine iteP_false ‹_› ?_ | refine andK ?_ | refine andA ?_ | refine andT ?_); conv => whnf) | (refine iteP_intro (fun hb => ?_) (fun hb => ?_) <;> (conv => whnf)))
  (refine ⟨_, hti, ?_⟩; conv => whnf)
  repeat' (first | ((first | refine opt_some (getC_rows rfl rfl (by omega)) ?_ | refine opt_some (by dsimp only; exact getC_lent rfl rfl (by omega)) ?_ | refine opt_some rfl ?_ | refine ⟨_, (by simp only [nf, nl, nm, en, ints, setC_setC, Nat.reduceAdd, Nat.reduceMul]; exact rfl), ?_⟩ | refine ⟨_, pickT rfl, ?_⟩ | refine ⟨_, rfl, ?_⟩ | refine iteP_true rfl ?_ | refine iteP_false rfl ?_ | refine iteP_true ‹_› ?_ | refine iteP_false ‹_› ?_ | refine andK ?_ | refine andA ?_ | refine andT ?_); conv => whnf) | (refine iteP_intro (fun hb => ?_) (fun hb => ?_) <;> (conv => whnf)))
  (refine ⟨_, hC, ?_⟩; conv => whnf)
  repeat' (first | ((first | refine opt_some (getC_rows rfl rfl (by omega)) ?_ | refine opt_some (by dsimp only; exact getC_lent rfl rfl (by omega)) ?_ | refine opt_some rfl ?_ | refine ⟨_, (by simp only [nf, nl, nm, en, ints, setC_setC, Nat.reduceAdd, Nat.reduceMul]; exact rfl), ?_⟩ | refine ⟨_, pickT rfl, ?_⟩ | refine ⟨_, rfl, ?_⟩ | refine iteP_true rfl ?_ | refine iteP_false rfl ?_ | refine iteP_true ‹_› ?_ | refine iteP_false ‹_› ?_ | refine andK ?_ | refine andA ?_ | refine andT ?_); conv => whnf) | (refine iteP_intro (fun hb => ?_) (fun hb => ?_) <;> (conv => whnf)))
  · exact absurd (leT ‹_›) (by omega)
  · rfl
end Go.Proofs.YtpopepcmfanegaaDoor
