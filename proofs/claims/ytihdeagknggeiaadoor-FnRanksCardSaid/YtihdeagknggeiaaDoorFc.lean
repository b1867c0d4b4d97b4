import Derived.Test.YtihdeagknggeiaaDoorFb
set_option autoImplicit false
set_option linter.unusedSimpArgs false
set_option linter.unusedVariables false
namespace Go.Proofs.YtihdeagknggeiaaDoor
open Go.Den
set_option maxHeartbeats 16000000 in
set_option maxRecDepth 100000 in
theorem l01In_ret (n a b : Int) : Ret Tryd.prog G0 50 [⟨.ro, .one (i64 n)⟩, ⟨.ro, .one (i64 a)⟩, ⟨.ro, .one (i64 b)⟩] ⟨.one (.c (.bool (decide (a ≤ n ∧ n ≤ b)))), []⟩ := by
  (refine ret_of_den (E := en 15 [] (fun _ => []) (fun _ => [])) tt_ok mixed Tryd.func50 rfl rfl rfl rfl ?_; refine ⟨by simp, ?_⟩)
  repeat' (first | ((first | refine opt_some (getC_rows rfl rfl (by omega)) ?_ | refine opt_some (by dsimp only; exact getC_lent rfl rfl (by omega)) ?_ | refine opt_some rfl ?_ | refine ⟨_, (by simp only [nf, nl, nm, en, ints, setC_setC, Nat.reduceAdd, Nat.reduceMul]; exact rfl), ?_⟩ | refine ⟨_, pickT rfl, ?_⟩ | refine ⟨_, rfl, ?_⟩ | refine iteP_true rfl ?_ | refine iteP_false rfl ?_ | refine iteP_true ‹_› ?_ | refine iteP_false ‹_› ?_ | refine andK ?_ | refine andA ?_ | refine andT ?_); conv => whnf) | (refine iteP_intro (fun hb => ?_) (fun hb => ?_) <;> (conv => whnf)))
  all_goals (refine endB ?_; simp_all <;> omega)
set_option maxHeartbeats 16000000 in
set_option maxRecDepth 100000 in
theorem inRange_ret (n a b : Int) : Ret Tryd.prog G0 62 [⟨.ro, .one (i64 n)⟩, ⟨.ro, .one (i64 a)⟩, ⟨.ro, .one (i64 b)⟩] ⟨.one (.c (.bool (decide (a ≤ n ∧ n ≤ b)))), []⟩ := by
  (refine ret_of_den (E := en 15 [] (fun _ => []) (fun _ => [])) tt_ok mixed Tryd.func62 rfl rfl rfl rfl ?_; refine ⟨by simp, ?_⟩)
  repeat' (first | ((first | refine opt_some (getC_rows rfl rfl (by omega)) ?_ | refine opt_some (by dsimp only; exact getC_lent rfl rfl (by omega)) ?_ | refine opt_some rfl ?_ | refine ⟨_, (by simp only [nf, nl, nm, en, ints, setC_setC, Nat.reduceAdd, Nat.reduceMul]; exact rfl), ?_⟩ | refine ⟨_, pickT rfl, ?_⟩ | refine ⟨_, rfl, ?_⟩ | refine iteP_true rfl ?_ | refine iteP_false rfl ?_ | refine iteP_true ‹_› ?_ | refine iteP_false ‹_› ?_ | refine andK ?_ | refine andA ?_ | refine andT ?_); conv => whnf) | (refine iteP_intro (fun hb => ?_) (fun hb => ?_) <;> (conv => whnf)))
  all_goals (refine endB ?_; simp_all <;> omega)
set_option maxHeartbeats 16000000 in
set_option maxRecDepth 100000 in
theorem one_ret (n : Int) (h0 : 0 ≤ n) (h1 : n < 63) : Ret Tryd.prog G0 94 [⟨.ro, .one (i64 n)⟩] ⟨.one (i64 (2 ^ n.toNat)), []⟩ := by
  (refine ret_of_den (E := en 5 [] (fun _ => []) (fun _ => [])) tt_ok mixed Tryd.func94 rfl rfl rfl rfl ?_; refine ⟨by simp, ?_⟩)
  repeat' (first | ((first | refine opt_some (getC_rows rfl rfl (by omega)) ?_ | refine opt_some (by dsimp only; exact getC_lent rfl rfl (by omega)) ?_ | refine opt_some rfl ?_ | refine ⟨_, (by simp only [nf, nl, nm, en, ints, setC_setC, Nat.reduceAdd, Nat.reduceMul]; exact rfl), ?_⟩ | refine ⟨_, pickT rfl, ?_⟩ | refine ⟨_, rfl, ?_⟩ | refine iteP_true rfl ?_ | refine iteP_false rfl ?_ | refine iteP_true ‹_› ?_ | refine iteP_false ‹_› ?_ | refine andK ?_ | refine andA ?_ | refine andT ?_); conv => whnf) | (refine iteP_intro (fun hb => ?_) (fun hb => ?_) <;> (conv => whnf)))
  refine endI ?_
  rw [Nat.min_eq_left (by simp [IntKind.bits]; omega), Int.one_mul, wrap_i64]
  · have : (0 : Int) < 2 ^ n.toNat := Int.pow_pos (by decide)
    omega
  · calc (2 : Int) ^ n.toNat < 2 ^ 63 := by exact_mod_cast Nat.pow_lt_pow_right (by decide) (by omega)
      _ = _ := by decide
set_option maxHeartbeats 16000000 in
set_option maxRecDepth 100000 in
theorem one_retN (i : Nat) (hi : i < 63) : Ret Tryd.prog G0 94 [⟨.ro, .one (i64 i)⟩] ⟨.one (i64 ((2 ^ i : Nat) : Int)), []⟩ := by
  have := one_ret i (by omega) (by omega)
  rw [Int.toNat_natCast] at this
  rwa [show (((2 ^ i : Nat) : Nat) : Int) = (2 : Int) ^ i by simp]
set_option maxHeartbeats 16000000 in
set_option maxRecDepth 100000 in
theorem allIn1_ret (n a b : Int) : Ret Tryd.prog G0 102 [⟨.ro, .one (i64 n)⟩, ⟨.ro, .one (.ptr [i64 a])⟩, ⟨.ro, .one (.ptr [i64 b])⟩] ⟨.one (.c (.bool (!decide (a ≤ n ∧ n ≤ b)))), []⟩ := by
  (refine ret_of_den (E := en 10 [] (fun _ => []) (fun _ => [])) tt_ok mixed Tryd.func102 rfl rfl rfl rfl ?_; refine ⟨by simp, ?_⟩)
  repeat' (first | ((first | refine opt_some (getC_rows rfl rfl (by omega)) ?_ | refine opt_some (by dsimp only; exact getC_lent rfl rfl (by omega)) ?_ | refine opt_some rfl ?_ | refine ⟨_, (by simp only [nf, nl, nm, en, ints, setC_setC, Nat.reduceAdd, Nat.reduceMul]; exact rfl), ?_⟩ | refine ⟨_, pickT rfl, ?_⟩ | refine ⟨_, rfl, ?_⟩ | refine iteP_true rfl ?_ | refine iteP_false rfl ?_ | refine iteP_true ‹_› ?_ | refine iteP_false ‹_› ?_ | refine andK ?_ | refine andA ?_ | refine andT ?_); conv => whnf) | (refine iteP_intro (fun hb => ?_) (fun hb => ?_) <;> (conv => whnf)))
  refine ⟨_, inRange_ret n a b, ?_⟩
  conv => whnf
  repeat' (first | ((first | refine opt_some (getC_rows rfl rfl (by omega)) ?_ | refine opt_some (by dsimp only; exact getC_lent rfl rfl (by omega)) ?_ | refine opt_some rfl ?_ | refine ⟨_, (by simp only [nf, nl, nm, en, ints, setC_setC, Nat.reduceAdd, Nat.reduceMul]; exact rfl), ?_⟩ | refine ⟨_, pickT rfl, ?_⟩ | refine ⟨_, rfl, ?_⟩ | refine iteP_true rfl ?_ | refine iteP_false rfl ?_ | refine iteP_true ‹_› ?_ | refine iteP_false ‹_› ?_ | refine andK ?_ | refine andA ?_ | refine andT ?_); conv => whnf) | (refine iteP_intro (fun hb => ?_) (fun hb => ?_) <;> (conv => whnf)))
  rfl
/-- The first place that holds, or -1. -/
def findI {α : Type} (p : α → Bool) : List α → Int → Int
  | [], _ => -1
  | x :: xs, i => if p x then i else findI p xs (i + 1)
theorem findI_step {α : Type} {p : α → Bool} {xs : List α} {i : Nat} (hi : i < xs.length) : findI p (xs.drop i) i = if p xs[i] then (i : Int) else findI p (xs.drop (i + 1)) ((i + 1 : Nat) : Int) := by
  rw [List.drop_eq_getElem_cons hi]
  rfl
theorem findI_T {α : Type} {p : α → Bool} {xs : List α} {i : Nat} (hi : i < xs.length) (h : p xs[i] = true) : findI p (xs.drop i) i = i := by
  rw [findI_step hi, if_pos h]
theorem findI_F {α : Type} {p : α → Bool} {xs : List α} {i : Nat} (hi : i < xs.length) (h : p xs[i] = false) : findI p (xs.drop i) i = findI p (xs.drop (i + 1)) ((i + 1 : Nat) : Int) := by
  rw [findI_step hi, if_neg (by rw [h]; simp)]
theorem findI_nonneg {α : Type} (p : α → Bool) : ∀ (xs : List α) (i : Int), 0 ≤ i → decide (findI p xs i ≥ 0) = xs.any p
  | [], i, h => by simp [findI]
  | x :: xs, i, h => by
    unfold findI
    split
    · rename_i hp; simp [hp, h]
    · rename_i hp; rw [findI_nonneg p xs (i + 1) (by omega)]; simp [hp]
set_option maxHeartbeats 16000000 in
set_option maxRecDepth 100000 in
theorem index_ret (xs : List Int) (a : Int) (hx : xs.length < 2 ^ 62) : Ret Tryd.prog G0 138 [⟨.ro, .one (ints xs)⟩, ⟨.ro, .one (i64 a)⟩] ⟨.one (i64 (findI (a == ·) xs 0)), []⟩ := by
  (refine ret_of_den (E := en 19 [] (fun _ => [(7, 0), (8, 0), (0, 1), (1, 1)]) (fun _ => [])) tt_ok mixed Tryd.func138 rfl rfl rfl rfl ?_; refine ⟨by simp, ?_⟩)
  repeat' (first | ((first | refine opt_some (getC_rows rfl rfl (by omega)) ?_ | refine opt_some (by dsimp only; exact getC_lent rfl rfl (by omega)) ?_ | refine opt_some rfl ?_ | refine ⟨_, (by simp only [nf, nl, nm, en, ints, setC_setC, Nat.reduceAdd, Nat.reduceMul]; exact rfl), ?_⟩ | refine ⟨_, pickT rfl, ?_⟩ | refine ⟨_, rfl, ?_⟩ | refine iteP_true rfl ?_ | refine iteP_false rfl ?_ | refine iteP_true ‹_› ?_ | refine iteP_false ‹_› ?_ | refine andK ?_ | refine andA ?_ | refine andT ?_); conv => whnf) | (refine iteP_intro (fun hb => ?_) (fun hb => ?_) <;> (conv => whnf)))
  refine ⟨fun k vs => ∃ i : Nat, i ≤ xs.length ∧ findI (a == ·) xs 0 = findI (a == ·) (xs.drop i) i ∧ vs = [.one (i64 xs.length), .one (i64 i), .one (.shd (ints xs)), .one (.shd (i64 a))] ∧ k = xs.length - i, rfl, ?_, ?_⟩
  · exact ⟨_, 0, by omega, by simp, rfl, rfl⟩
  · rintro k vs ⟨i, hi, hx, rfl, rfl⟩
    repeat' (first | ((first | refine opt_some (getC_rows rfl rfl (by omega)) ?_ | refine opt_some (by dsimp only; exact getC_lent rfl rfl (by omega)) ?_ | refine opt_some rfl ?_ | refine ⟨_, (by simp only [nf, nl, nm, en, ints, setC_setC, Nat.reduceAdd, Nat.reduceMul]; exact rfl), ?_⟩ | refine ⟨_, pickT rfl, ?_⟩ | refine ⟨_, rfl, ?_⟩ | refine iteP_true rfl ?_ | refine iteP_false rfl ?_ | refine iteP_true ‹_› ?_ | refine iteP_false ‹_› ?_ | refine andK ?_ | refine andA ?_ | refine andT ?_); conv => whnf) | (refine iteP_intro (fun hb => ?_) (fun hb => ?_) <;> (conv => whnf)))
    · have hi' := ltT ‹decide ((i : Int) < xs.length) = true›
      refine endI ?_
      rw [hx, findI_T hi' hb]
    · have hi' := ltT ‹decide ((i : Int) < xs.length) = true›
      refine ⟨_, ?_, i + 1, hi', ?_, by rw [wrap_succ (by omega)]; rfl, rfl⟩
      · omega
      · rw [hx, findI_F hi' hb]
    · obtain rfl : i = xs.length := Nat.le_antisymm hi (ltF hb)
      refine endI ?_
      rw [hx]; simp [findI]
set_option maxHeartbeats 16000000 in
set_option maxRecDepth 100000 in
theorem indexF_ret (xs : List Int) (a b : Int) (hx : xs.length < 2 ^ 62) : Ret Tryd.prog G0 131 [⟨.ro, .one (ints xs)⟩, ⟨.ro, .one (.fn (.func 102) [.ptr [i64 a], .ptr [i64 b]])⟩] ⟨.one (i64 (findI (fun n => !decide (a ≤ n ∧ n ≤ b)) xs 0)), []⟩ := by
  (refine ret_of_den (E := en 19 [] (fun _ => [(7, 0), (8, 0), (0, 1), (1, 1)]) (fun _ => [])) tt_ok mixed Tryd.func131 rfl rfl rfl rfl ?_; refine ⟨by simp, ?_⟩)
  repeat' (first | ((first | refine opt_some (getC_rows rfl rfl (by omega)) ?_ | refine opt_some (by dsimp only; exact getC_lent rfl rfl (by omega)) ?_ | refine opt_some rfl ?_ | refine ⟨_, (by simp only [nf, nl, nm, en, ints, setC_setC, Nat.reduceAdd, Nat.reduceMul]; exact rfl), ?_⟩ | refine ⟨_, pickT rfl, ?_⟩ | refine ⟨_, rfl, ?_⟩ | refine iteP_true rfl ?_ | refine iteP_false rfl ?_ | refine iteP_true ‹_› ?_ | refine iteP_false ‹_› ?_ | refine andK ?_ | refine andA ?_ | refine andT ?_); conv => whnf) | (refine iteP_intro (fun hb => ?_) (fun hb => ?_) <;> (conv => whnf)))
  refine ⟨fun k vs => ∃ i : Nat, i ≤ xs.length ∧ findI (fun n => !decide (a ≤ n ∧ n ≤ b)) xs 0 = findI (fun n => !decide (a ≤ n ∧ n ≤ b)) (xs.drop i) i ∧ vs = [.one (i64 xs.length), .one (i64 i), .one (.shd (ints xs)), .one (.shd (.fn (.func 102) [.ptr [i64 a], .ptr [i64 b]]))] ∧ k = xs.length - i, rfl, ?_, ?_⟩
  · exact ⟨_, 0, by omega, by simp, rfl, rfl⟩
  · rintro k vs ⟨i, hi, hx, rfl, rfl⟩
    repeat' (first | ((first | refine opt_some (getC_rows rfl rfl (by omega)) ?_ | refine opt_some (by dsimp only; exact getC_lent rfl rfl (by omega)) ?_ | refine opt_some rfl ?_ | refine ⟨_, (by simp only [nf, nl, nm, en, ints, setC_setC, Nat.reduceAdd, Nat.reduceMul]; exact rfl), ?_⟩ | refine ⟨_, pickT rfl, ?_⟩ | refine ⟨_, rfl, ?_⟩ | refine iteP_true rfl ?_ | refine iteP_false rfl ?_ | refine iteP_true ‹_› ?_ | refine iteP_false ‹_› ?_ | refine andK ?_ | refine andA ?_ | refine andT ?_); conv => whnf) | (refine iteP_intro (fun hb => ?_) (fun hb => ?_) <;> (conv => whnf)))
    · refine ⟨_, allIn1_ret _ a b, ?_⟩
      conv => whnf
      repeat' (first | ((first | refine opt_some (getC_rows rfl rfl (by omega)) ?_ | refine opt_some (by dsimp only; exact getC_lent rfl rfl (by omega)) ?_ | refine opt_some rfl ?_ | refine ⟨_, (by simp only [nf, nl, nm, en, ints, setC_setC, Nat.reduceAdd, Nat.reduceMul]; exact rfl), ?_⟩ | refine ⟨_, pickT rfl, ?_⟩ | refine ⟨_, rfl, ?_⟩ | refine iteP_true rfl ?_ | refine iteP_false rfl ?_ | refine iteP_true ‹_› ?_ | refine iteP_false ‹_› ?_ | refine andK ?_ | refine andA ?_ | refine andT ?_); conv => whnf) | (refine iteP_intro (fun hb => ?_) (fun hb => ?_) <;> (conv => whnf)))
      · have hi' := ltT ‹decide ((i : Int) < xs.length) = true›
        refine endI ?_
        rw [hx, findI_T hi' hb]
      · have hi' := ltT ‹decide ((i : Int) < xs.length) = true›
        refine ⟨_, ?_, i + 1, hi', ?_, by rw [wrap_succ (by omega)]; rfl, rfl⟩
        · omega
        · rw [hx, findI_F hi' hb]
    · obtain rfl : i = xs.length := Nat.le_antisymm hi (ltF hb)
      refine endI ?_
      rw [hx]; simp [findI]
set_option maxHeartbeats 16000000 in
set_option maxRecDepth 100000 in
theorem containsF_ret (xs : List Int) (a b : Int) (hx : xs.length < 2 ^ 62) : Ret Tryd.prog G0 101 [⟨.ro, .one (ints xs)⟩, ⟨.ro, .one (.fn (.func 102) [.ptr [i64 a], .ptr [i64 b]])⟩] ⟨.one (.c (.bool (xs.any fun n => !decide (a ≤ n ∧ n ≤ b)))), []⟩ := by
  (refine ret_of_den (E := en 9 [] (fun _ => []) (fun _ => [])) tt_ok mixed Tryd.func101 rfl rfl rfl rfl ?_; refine ⟨by simp, ?_⟩)
  repeat' (first | ((first | refine opt_some (getC_rows rfl rfl (by omega)) ?_ | refine opt_some (by dsimp only; exact getC_lent rfl rfl (by omega)) ?_ | refine opt_some rfl ?_ | refine ⟨_, (by simp only [nf, nl, nm, en, ints, setC_setC, Nat.reduceAdd, Nat.reduceMul]; exact rfl), ?_⟩ | refine ⟨_, pickT rfl, ?_⟩ | refine ⟨_, rfl, ?_⟩ | refine iteP_true rfl ?_ | refine iteP_false rfl ?_ | refine iteP_true ‹_› ?_ | refine iteP_false ‹_› ?_ | refine andK ?_ | refine andA ?_ | refine andT ?_); conv => whnf) | (refine iteP_intro (fun hb => ?_) (fun hb => ?_) <;> (conv => whnf)))
  refine ⟨_, indexF_ret xs a b hx, ?_⟩
  conv => whnf
  repeat' (first | ((first | refine opt_some (getC_rows rfl rfl (by omega)) ?_ | refine opt_some (by dsimp only; exact getC_lent rfl rfl (by omega)) ?_ | refine opt_some rfl ?_ | refine ⟨_, (by simp only [nf, nl, nm, en, ints, setC_setC, Nat.reduceAdd, Nat.reduceMul]; exact rfl), ?_⟩ | refine ⟨_, pickT rfl, ?_⟩ | refine ⟨_, rfl, ?_⟩ | refine iteP_true rfl ?_ | refine iteP_false rfl ?_ | refine iteP_true ‹_› ?_ | refine iteP_false ‹_› ?_ | refine andK ?_ | refine andA ?_ | refine andT ?_); conv => whnf) | (refine iteP_intro (fun hb => ?_) (fun hb => ?_) <;> (conv => whnf)))
  exact endB (findI_nonneg _ _ _ (Int.le_refl _))
set_option maxHeartbeats 16000000 in
set_option maxRecDepth 100000 in
theorem allIn_ret (xs : List Int) (a b : Int) (hx : xs.length < 2 ^ 62) : Ret Tryd.prog G0 56 [⟨.ro, .one (ints xs)⟩, ⟨.ro, .one (i64 a)⟩, ⟨.ro, .one (i64 b)⟩] ⟨.one (.c (.bool (xs.all fun n => decide (a ≤ n ∧ n ≤ b)))), []⟩ := by
  (refine ret_of_den (E := en 11 [] (fun _ => []) (fun _ => [])) tt_ok mixed Tryd.func56 rfl rfl rfl rfl ?_; refine ⟨by simp, ?_⟩)
  repeat' (first | ((first | refine opt_some (getC_rows rfl rfl (by omega)) ?_ | refine opt_some (by dsimp only; exact getC_lent rfl rfl (by omega)) ?_ | refine opt_some rfl ?_ | refine ⟨_, (by simp only [nf, nl, nm, en, ints, setC_setC, Nat.reduceAdd, Nat.reduceMul]; exact rfl), ?_⟩ | refine ⟨_, pickT rfl, ?_⟩ | refine ⟨_, rfl, ?_⟩ | refine iteP_true rfl ?_ | refine iteP_false rfl ?_ | refine iteP_true ‹_› ?_ | refine iteP_false ‹_› ?_ | refine andK ?_ | refine andA ?_ | refine andT ?_); conv => whnf) | (refine iteP_intro (fun hb => ?_) (fun hb => ?_) <;> (conv => whnf)))
  refine ⟨_, containsF_ret xs a b hx, ?_⟩
  conv => whnf
  repeat' (first | ((first | refine opt_some (getC_rows rfl rfl (by omega)) ?_ | refine opt_some (by dsimp only; exact getC_lent rfl rfl (by omega)) ?_ | refine opt_some rfl ?_ | refine ⟨_, (by simp only [nf, nl, nm, en, ints, setC_setC, Nat.reduceAdd, Nat.reduceMul]; exact rfl), ?_⟩ | refine ⟨_, pickT rfl, ?_⟩ | refine ⟨_, rfl, ?_⟩ | refine iteP_true rfl ?_ | refine iteP_false rfl ?_ | refine iteP_true ‹_› ?_ | refine iteP_false ‹_› ?_ | refine andK ?_ | refine andA ?_ | refine andT ?_); conv => whnf) | (refine iteP_intro (fun hb => ?_) (fun hb => ?_) <;> (conv => whnf)))
  exact endB List.all_eq_not_any_not.symm
/-- The numbers from m on, n of them. -/
def marks (m : Int) (n : Nat) : List Int := (List.range n).map fun j : Nat => m + (j : Int)
theorem marks_length (m : Int) (n : Nat) : (marks m n).length = n := by simp [marks]
theorem marks_get {m : Int} {n j : Nat} (h : j < n) : (marks m n)[j]? = some (m + j) := by simp [marks, h]
/-- The first i are marked. -/
def marked (m : Int) (xs : List Int) (i : Nat) : List Int := marks m i ++ xs.drop i
theorem marked_length {m : Int} {xs : List Int} {i : Nat} (h : i ≤ xs.length) : (marked m xs i).length = xs.length := by simp [marked, marks]; omega
theorem marked_get {m : Int} {xs : List Int} {i j : Nat} : (marked m xs i)[j]? = if j < i then some (m + j) else xs[j]? := by
  simp only [marked]
  rw [List.getElem?_append, marks_length]
  split
  · rename_i h; exact marks_get h
  · rw [List.getElem?_drop]; congr 1; omega
theorem marked_set {m : Int} {xs : List Int} {i : Nat} (h : i < xs.length) : (marked m xs i).set i (m + i) = marked m xs (i + 1) := by
  refine List.ext_getElem? fun j => ?_
  have hl := marked_length (m := m) (Nat.le_of_lt h)
  by_cases e : i = j
  · subst e
    rw [List.getElem?_set_self (by omega), marked_get, if_pos (by omega)]
  · rw [List.getElem?_set_ne e, marked_get, marked_get]
    by_cases h1 : j < i
    · rw [if_pos h1, if_pos (by omega)]
    · rw [if_neg h1, if_neg (by omega)]
/-- May the numbers be a word over n letters and their inverses? -/
def signedN (n : Int) (xs : List Int) : Bool := decide (xs.length ≤ 24) && xs.all (fun x => decide (-n ≤ x ∧ x ≤ n)) && !xs.any (0 == ·)
/-- A text's letters, one by one. -/
def scan (f : Int → Option Int) : List UInt8 → Option (List Int)
  | [] => some []
  | b :: bs => (f (b.toNat : Int)).bind fun x => (scan f bs).map (x :: ·)
theorem scan_append (f : Int → Option Int) : ∀ (cs bs : List UInt8), scan f (cs ++ bs) = (scan f cs).bind fun xs => (scan f bs).map (xs ++ ·)
  | [], bs => by cases h : scan f bs <;> simp [scan, h]
  | c :: cs, bs => by
    simp only [List.cons_append, scan, scan_append f cs bs]
    cases f (c.toNat : Int) <;> simp
    cases scan f cs <;> simp
    cases scan f bs <;> simp
theorem scan_step {f : Int → Option Int} {bs : List UInt8} {i : Nat} {xs : List Int} {v : Int} (hi : i < bs.length) (hx : scan f (bs.take i) = some xs) (hv : f ((bs.getD i 0).toNat : Int) = some v) : scan f (bs.take (i + 1)) = some (xs ++ [v]) := by
  rw [List.take_succ_eq_append_getElem hi, scan_append, hx]
  rw [List.getD_eq_getElem?_getD, List.getElem?_eq_getElem hi, Option.getD_some] at hv
  simp [scan, hv]
theorem scan_stop {f : Int → Option Int} {bs : List UInt8} {i : Nat} {xs : List Int} (hi : i < bs.length) (hx : scan f (bs.take i) = some xs) (hv : f ((bs.getD i 0).toNat : Int) = none) : scan f bs = none := by
  rw [← List.take_append_drop i bs, scan_append, hx, List.drop_eq_getElem_cons hi]
  rw [List.getD_eq_getElem?_getD, List.getElem?_eq_getElem hi, Option.getD_some] at hv
  simp [scan, hv]
theorem scan_length {f : Int → Option Int} : ∀ {bs : List UInt8} {xs : List Int}, scan f bs = some xs → xs.length = bs.length
  | [], _, h => by cases h; rfl
  | b :: bs, xs, h => by
    simp only [scan, Option.bind_eq_some_iff, Option.map_eq_some_iff] at h
    obtain ⟨x, -, ys, hy, rfl⟩ := h
    simp [scan_length hy]
def chS (c : Int) : Option Int := if 97 ≤ c ∧ c ≤ 104 then some (c - 96) else if 65 ≤ c ∧ c ≤ 72 then some (64 - c) else none
def chI (c : Int) : Option Int := if 97 ≤ c then some (c - 96) else if 65 ≤ c ∧ c ≤ 90 then some (64 - c) else none
def code : Option (List Int) → Int
  | none => 6
  | some _ => 0
def parseS (s : ByteArray) : Option (List Int) := if s.data.toList = [45] then some [] else (scan chS s.data.toList).bind fun xs => if xs.length = 0 ∨ 24 < xs.length then none else some xs
def parseI (s : ByteArray) : Option (List Int) := if s.data.toList = [45] then some [] else (scan chI s.data.toList).bind fun xs => if xs.length = 0 ∨ signedN 8 xs = false then none else some xs
theorem u8_range (bs : List UInt8) (i : Nat) : 0 ≤ ((bs.getD i 0).toNat : Int) ∧ ((bs.getD i 0).toNat : Int) < 256 := by
  have := (bs.getD i 0).toNat_lt
  omega
end Go.Proofs.YtihdeagknggeiaaDoor
