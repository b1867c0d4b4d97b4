import Derived.Test.YtihdeagknggeiaaDoorFzb
set_option autoImplicit false
set_option linter.unusedSimpArgs false
set_option linter.unusedVariables false
namespace Go.Proofs.YtihdeagknggeiaaDoor
open Go.Den
/-- Is a list a content with at most 24 letters? -/
def scanC : List Int → Int → Bool
  | [], _ => true
  | x :: r, s => if 0 ≤ x ∧ x ≤ 24 then (if s + x > 24 then false else scanC r (s + x)) else false
def cntOf (ds xs : List Int) : Int := valC (stepL (dep (ds.map Int.toNat)) (ds.map Int.toNat).length) (xs.map Int.toNat)
def coR (n : Int) (ds xs : List Int) : Int × Int :=
  if alphaOk n ds then (if decide ((xs.length : Int) = n) && scanC xs 0 then (if 1000000000000000 < cntOf ds xs then (0, 3) else (cntOf ds xs, 0)) else (0, 2)) else (0, 1)
theorem coR_bad {n : Int} {ds xs : List Int} (h : alphaOk n ds = false) : coR n ds xs = (0, 1) := by
  unfold coR
  rw [if_neg (by rw [h]; simp)]
theorem coR_out {n : Int} {ds xs : List Int} (h : alphaOk n ds = true) (hx : (decide ((xs.length : Int) = n) && scanC xs 0) = false) : coR n ds xs = (0, 2) := by
  unfold coR
  rw [if_pos h, if_neg (by rw [hx]; simp)]
theorem coR_in {n : Int} {ds xs : List Int} (h : alphaOk n ds = true) (hx : (decide ((xs.length : Int) = n) && scanC xs 0) = true) : coR n ds xs = if 1000000000000000 < cntOf ds xs then (0, 3) else (cntOf ds xs, 0) := by
  unfold coR
  rw [if_pos h, if_pos hx]
def sumI : List Int → Int
  | [] => 0
  | x :: r => x + sumI r
theorem sumI_nn : ∀ {r : List Int}, (∀ x ∈ r, 0 ≤ x) → 0 ≤ sumI r
  | [], _ => Int.le_refl _
  | x :: r, h => by
    have h1 := h x (by simp)
    have h2 := sumI_nn fun y hy => h y (List.mem_cons_of_mem _ hy)
    rw [sumI]
    omega
theorem scan_iff : ∀ {xs : List Int} {s : Int}, s ≤ 24 → (scanC xs s = true ↔ (∀ x ∈ xs, 0 ≤ x ∧ x ≤ 24) ∧ s + sumI xs ≤ 24)
  | [], s, hs => by simp [scanC, sumI]; omega
  | x :: r, s, hs => by
    rw [scanC, sumI]
    by_cases hx : 0 ≤ x ∧ x ≤ 24
    · rw [if_pos hx]
      by_cases hs2 : s + x > 24
      · rw [if_pos hs2]
        constructor
        · intro h; cases h
        · rintro ⟨h1, h2⟩
          have := sumI_nn fun y hy => (h1 y (List.mem_cons_of_mem _ hy)).1
          omega
      · rw [if_neg hs2, scan_iff (by omega)]
        constructor
        · rintro ⟨h1, h2⟩
          refine ⟨fun y hy => ?_, by omega⟩
          rcases List.mem_cons.1 hy with rfl | hy
          · exact hx
          · exact h1 y hy
        · rintro ⟨h1, h2⟩
          exact ⟨fun y hy => h1 y (List.mem_cons_of_mem _ hy), by omega⟩
    · rw [if_neg hx]
      constructor
      · intro h; cases h
      · rintro ⟨h1, -⟩
        exact absurd (h1 x (by simp)) hx
/-- A content as natural numbers. -/
theorem scan_nat {xs : List Int} (h : scanC xs 0 = true) : ∃ c : List Nat, xs.map Int.toNat = c ∧ xs = natI c ∧ (∀ x ∈ c, x ≤ 24) ∧ sumI xs ≤ 24 := by
  obtain ⟨h1, h2⟩ := (scan_iff (by omega)).1 h
  refine ⟨_, rfl, ?_, fun x hx => ?_, by omega⟩
  · unfold natI
    rw [List.map_map]
    conv => lhs; rw [← List.map_id xs]
    refine List.map_congr_left fun x hx => ?_
    have := h1 x hx
    show x = ((x.toNat : Nat) : Int)
    omega
  · obtain ⟨y, hy, rfl⟩ := List.mem_map.1 hx
    have := h1 y hy
    omega
theorem sumI_take {xs : List Int} {i : Nat} (h : i < xs.length) : sumI (xs.take (i + 1)) = sumI (xs.take i) + xs[i] := by
  have : ∀ (a b : List Int), sumI (a ++ b) = sumI a + sumI b := fun a => by
    induction a with
    | nil => intro b; simp [sumI]
    | cons x a ih => intro b; rw [List.cons_append, sumI, sumI, ih]; omega
  rw [List.take_add_one, List.getElem?_eq_getElem h, this]
  simp [sumI]
set_option maxHeartbeats 16000000 in
set_option maxRecDepth 100000 in
theorem coI_ret (n : Int) (ds xs : List Int) (hd : ds.length < 2 ^ 62) (hx : xs.length < 2 ^ 62) : Ret Tryd.prog G0 16 [⟨.ro, .agg [i64 n, ints ds]⟩, ⟨.ro, .one (ints xs)⟩] ⟨.tup [(false, [i64 (coR n ds xs).1]), (false, [i64 (coR n ds xs).2])], []⟩ := by
  have hI := isAlpha_ret n ds hd
  have hLx := length_ret xs
  have hAl := allIn_ret xs 0 24 hx
  cases h1 : alphaOk n ds with
  | false =>
    rw [coR_bad h1]
    rw [h1] at hI
    (refine ret_of_den (E := en 47 [] (fun _ => [(2, 0), (6, 0), (25, 0), (26, 0), (1, 1), (24, 1)]) (fun _ => [])) tt_ok mixed Tryd.func16 rfl rfl rfl rfl ?_; refine ⟨by simp, ?_⟩)
    repeat' (first | ((first | refine opt_some (getC_rows rfl rfl (by omega)) ?_ | refine opt_some (by dsimp only; exact getC_lent rfl rfl (by omega)) ?_ | refine opt_some rfl ?_ | refine ⟨_, (by simp only [nf, nl, nm, en, ints, setC_setC, Nat.reduceAdd, Nat.reduceMul]; exact rfl), ?_⟩ | refine ⟨_, pickT rfl, ?_⟩ | refine ⟨_, rfl, ?_⟩ | refine iteP_true rfl ?_ | refine iteP_false rfl ?_ | refine iteP_true ‹_› ?_ | refine iteP_false ‹_› ?_ | refine andK ?_ | refine andA ?_ | refine andT ?_); conv => whnf) | (refine iteP_intro (fun hb => ?_) (fun hb => ?_) <;> (conv => whnf)))
    (refine ⟨_, hI, ?_⟩; conv => whnf)
    repeat' (first | ((first | refine opt_some (getC_rows rfl rfl (by omega)) ?_ | refine opt_some (by dsimp only; exact getC_lent rfl rfl (by omega)) ?_ | refine opt_some rfl ?_ | refine ⟨_, (by simp only [nf, nl, nm, en, ints, setC_setC, Nat.reduceAdd, Nat.reduceMul]; exact rfl), ?_⟩ | refine ⟨_, pickT rfl, ?_⟩ | refine ⟨_, rfl, ?_⟩ | refine iteP_true rfl ?_ | refine iteP_false rfl ?_ | refine iteP_true ‹_› ?_ | refine iteP_false ‹_› ?_ | refine andK ?_ | refine andA ?_ | refine andT ?_); conv => whnf) | (refine iteP_intro (fun hb => ?_) (fun hb => ?_) <;> (conv => whnf)))
    rfl
  | true =>
  rw [h1] at hI
  by_cases hln : (xs.length : Int) = n
  rotate_left
  · rw [coR_out h1 (by rw [decide_eq_false hln]; rfl)]
    have hne : ((xs.length : Int) != n) = true := by simpa using hln
    (refine ret_of_den (E := en 47 [] (fun _ => [(2, 0), (6, 0), (25, 0), (26, 0), (1, 1), (24, 1)]) (fun _ => [])) tt_ok mixed Tryd.func16 rfl rfl rfl rfl ?_; refine ⟨by simp, ?_⟩)
    repeat' (first | ((first | refine opt_some (getC_rows rfl rfl (by omega)) ?_ | refine opt_some (by dsimp only; exact getC_lent rfl rfl (by omega)) ?_ | refine opt_some rfl ?_ | refine ⟨_, (by simp only [nf, nl, nm, en, ints, setC_setC, Nat.reduceAdd, Nat.reduceMul]; exact rfl), ?_⟩ | refine ⟨_, pickT rfl, ?_⟩ | refine ⟨_, rfl, ?_⟩ | refine iteP_true rfl ?_ | refine iteP_false rfl ?_ | refine iteP_true ‹_› ?_ | refine iteP_false ‹_› ?_ | refine andK ?_ | refine andA ?_ | refine andT ?_); conv => whnf) | (refine iteP_intro (fun hb => ?_) (fun hb => ?_) <;> (conv => whnf)))
    (refine ⟨_, hI, ?_⟩; conv => whnf)
    repeat' (first | ((first | refine opt_some (getC_rows rfl rfl (by omega)) ?_ | refine opt_some (by dsimp only; exact getC_lent rfl rfl (by omega)) ?_ | refine opt_some rfl ?_ | refine ⟨_, (by simp only [nf, nl, nm, en, ints, setC_setC, Nat.reduceAdd, Nat.reduceMul]; exact rfl), ?_⟩ | refine ⟨_, pickT rfl, ?_⟩ | refine ⟨_, rfl, ?_⟩ | refine iteP_true rfl ?_ | refine iteP_false rfl ?_ | refine iteP_true ‹_› ?_ | refine iteP_false ‹_› ?_ | refine andK ?_ | refine andA ?_ | refine andT ?_); conv => whnf) | (refine iteP_intro (fun hb => ?_) (fun hb => ?_) <;> (conv => whnf)))
    (refine ⟨_, hLx, ?_⟩; conv => whnf)
    repeat' (first | ((first | refine opt_some (getC_rows rfl rfl (by omega)) ?_ | refine opt_some (by dsimp only; exact getC_lent rfl rfl (by omega)) ?_ | refine opt_some rfl ?_ | refine ⟨_, (by simp only [nf, nl, nm, en, ints, setC_setC, Nat.reduceAdd, Nat.reduceMul, hne]; exact rfl), ?_⟩ | refine ⟨_, pickT rfl, ?_⟩ | refine ⟨_, rfl, ?_⟩ | refine iteP_true rfl ?_ | refine iteP_false rfl ?_ | refine iteP_true ‹_› ?_ | refine iteP_false ‹_› ?_ | refine andK ?_ | refine andA ?_ | refine andT ?_); conv => whnf) | (refine iteP_intro (fun hb => ?_) (fun hb => ?_) <;> (conv => whnf)))
    rfl
  have hne : ((xs.length : Int) != n) = false := by simpa using hln
  by_cases hall : (xs.all fun n => decide (0 ≤ n ∧ n ≤ 24)) = true
  rotate_left
  · have hall : (xs.all fun n => decide (0 ≤ n ∧ n ≤ 24)) = false := by simpa using hall
    have hsc : scanC xs 0 = false := by
      cases hs : scanC xs 0 with
      | false => rfl
      | true =>
        have := ((scan_iff (by omega)).1 hs).1
        rw [List.all_eq_true.2 fun x hx => decide_eq_true (this x hx)] at hall
        cases hall
    rw [coR_out h1 (by rw [hsc, Bool.and_false])]
    rw [hall] at hAl
    (refine ret_of_den (E := en 47 [] (fun _ => [(2, 0), (6, 0), (25, 0), (26, 0), (1, 1), (24, 1)]) (fun _ => [])) tt_ok mixed Tryd.func16 rfl rfl rfl rfl ?_; refine ⟨by simp, ?_⟩)
    repeat' (first | ((first | refine opt_some (getC_rows rfl rfl (by omega)) ?_ | refine opt_some (by dsimp only; exact getC_lent rfl rfl (by omega)) ?_ | refine opt_some rfl ?_ | refine ⟨_, (by simp only [nf, nl, nm, en, ints, setC_setC, Nat.reduceAdd, Nat.reduceMul]; exact rfl), ?_⟩ | refine ⟨_, pickT rfl, ?_⟩ | refine ⟨_, rfl, ?_⟩ | refine iteP_true rfl ?_ | refine iteP_false rfl ?_ | refine iteP_true ‹_› ?_ | refine iteP_false ‹_› ?_ | refine andK ?_ | refine andA ?_ | refine andT ?_); conv => whnf) | (refine iteP_intro (fun hb => ?_) (fun hb => ?_) <;> (conv => whnf)))
    (refine ⟨_, hI, ?_⟩; conv => whnf)
    repeat' (first | ((first | refine opt_some (getC_rows rfl rfl (by omega)) ?_ | refine opt_some (by dsimp only; exact getC_lent rfl rfl (by omega)) ?_ | refine opt_some rfl ?_ | refine ⟨_, (by simp only [nf, nl, nm, en, ints, setC_setC, Nat.reduceAdd, Nat.reduceMul]; exact rfl), ?_⟩ | refine ⟨_, pickT rfl, ?_⟩ | refine ⟨_, rfl, ?_⟩ | refine iteP_true rfl ?_ | refine iteP_false rfl ?_ | refine iteP_true ‹_› ?_ | refine iteP_false ‹_› ?_ | refine andK ?_ | refine andA ?_ | refine andT ?_); conv => whnf) | (refine iteP_intro (fun hb => ?_) (fun hb => ?_) <;> (conv => whnf)))
    (refine ⟨_, hLx, ?_⟩; conv => whnf)
    repeat' (first | ((first | refine opt_some (getC_rows rfl rfl (by omega)) ?_ | refine opt_some (by dsimp only; exact getC_lent rfl rfl (by omega)) ?_ | refine opt_some rfl ?_ | refine ⟨_, (by simp only [nf, nl, nm, en, ints, setC_setC, Nat.reduceAdd, Nat.reduceMul, hne]; exact rfl), ?_⟩ | refine ⟨_, pickT rfl, ?_⟩ | refine ⟨_, rfl, ?_⟩ | refine iteP_true rfl ?_ | refine iteP_false rfl ?_ | refine iteP_true ‹_› ?_ | refine iteP_false ‹_› ?_ | refine andK ?_ | refine andA ?_ | refine andT ?_); conv => whnf) | (refine iteP_intro (fun hb => ?_) (fun hb => ?_) <;> (conv => whnf)))
    (refine ⟨_, hAl, ?_⟩; conv => whnf)
    repeat' (first | ((first | refine opt_some (getC_rows rfl rfl (by omega)) ?_ | refine opt_some (by dsimp only; exact getC_lent rfl rfl (by omega)) ?_ | refine opt_some rfl ?_ | refine ⟨_, (by simp only [nf, nl, nm, en, ints, setC_setC, Nat.reduceAdd, Nat.reduceMul]; exact rfl), ?_⟩ | refine ⟨_, pickT rfl, ?_⟩ | refine ⟨_, rfl, ?_⟩ | refine iteP_true rfl ?_ | refine iteP_false rfl ?_ | refine iteP_true ‹_› ?_ | refine iteP_false ‹_› ?_ | refine andK ?_ | refine andA ?_ | refine andT ?_); conv => whnf) | (refine iteP_intro (fun hb => ?_) (fun hb => ?_) <;> (conv => whnf)))
    rfl
  rw [hall] at hAl
  have hrg : ∀ x ∈ xs, 0 ≤ x ∧ x ≤ 24 := fun x hx => of_decide_eq_true (List.all_eq_true.1 hall x hx)
  obtain ⟨ms, e1, rfl, rfl, hl, hA⟩ := alpha_ok h1
  have hxl : xs.length ≤ 8 := by omega
  have hpre : ∀ i, i ≤ xs.length → 0 ≤ sumI (xs.take i) ∧ sumI (xs.take i) ≤ i * 24 := fun i => by
    induction i with
    | zero => intro _; exact ⟨Int.le_refl _, Int.le_refl _⟩
    | succ i ih =>
      intro hi
      have h2 := ih (by omega)
      have h3 := hrg _ (List.getElem_mem (show i < xs.length by omega))
      rw [sumI_take (by omega)]
      omega
  have htot : sumI (xs.take xs.length) = sumI xs := by rw [List.take_length]
  have hSt := (stepsOf_ret ms hA hl).share
  simp only [shSV] at hSt
  have hcr : sumI xs ≤ 24 → ∃ c : List Nat, xs.map Int.toNat = c ∧ xs = natI c ∧ (∀ x ∈ c, x ≤ 24) ∧ scanC xs 0 = true := fun hs => by
    have hsc : scanC xs 0 = true := (scan_iff (by omega)).2 ⟨hrg, by omega⟩
    obtain ⟨c, c1, c2, c3, -⟩ := scan_nat hsc
    exact ⟨c, c1, c2, c3, hsc⟩
  (refine ret_of_den (E := en 47 [] (fun _ => [(2, 0), (6, 0), (25, 0), (26, 0), (1, 1), (24, 1)]) (fun _ => [])) tt_ok mixed Tryd.func16 rfl rfl rfl rfl ?_; refine ⟨by simp, ?_⟩)
  repeat' (first | ((first | refine opt_some (getC_rows rfl rfl (by omega)) ?_ | refine opt_some (by dsimp only; exact getC_lent rfl rfl (by omega)) ?_ | refine opt_some rfl ?_ | refine ⟨_, (by simp only [nf, nl, nm, en, ints, setC_setC, Nat.reduceAdd, Nat.reduceMul]; exact rfl), ?_⟩ | refine ⟨_, pickT rfl, ?_⟩ | refine ⟨_, rfl, ?_⟩ | refine iteP_true rfl ?_ | refine iteP_false rfl ?_ | refine iteP_true ‹_› ?_ | refine iteP_false ‹_› ?_ | refine andK ?_ | refine andA ?_ | refine andT ?_); conv => whnf) | (refine iteP_intro (fun hb => ?_) (fun hb => ?_) <;> (conv => whnf)))
  (refine ⟨_, hI, ?_⟩; conv => whnf)
  repeat' (first | ((first | refine opt_some (getC_rows rfl rfl (by omega)) ?_ | refine opt_some (by dsimp only; exact getC_lent rfl rfl (by omega)) ?_ | refine opt_some rfl ?_ | refine ⟨_, (by simp only [nf, nl, nm, en, ints, setC_setC, Nat.reduceAdd, Nat.reduceMul]; exact rfl), ?_⟩ | refine ⟨_, pickT rfl, ?_⟩ | refine ⟨_, rfl, ?_⟩ | refine iteP_true rfl ?_ | refine iteP_false rfl ?_ | refine iteP_true ‹_› ?_ | refine iteP_false ‹_› ?_ | refine andK ?_ | refine andA ?_ | refine andT ?_); conv => whnf) | (refine iteP_intro (fun hb => ?_) (fun hb => ?_) <;> (conv => whnf)))
  (refine ⟨_, hLx, ?_⟩; conv => whnf)
  repeat' (first | ((first | refine opt_some (getC_rows rfl rfl (by omega)) ?_ | refine opt_some (by dsimp only; exact getC_lent rfl rfl (by omega)) ?_ | refine opt_some rfl ?_ | refine ⟨_, (by simp only [nf, nl, nm, en, ints, setC_setC, Nat.reduceAdd, Nat.reduceMul, hne]; exact rfl), ?_⟩ | refine ⟨_, pickT rfl, ?_⟩ | refine ⟨_, rfl, ?_⟩ | refine iteP_true rfl ?_ | refine iteP_false rfl ?_ | refine iteP_true ‹_› ?_ | refine iteP_false ‹_› ?_ | refine andK ?_ | refine andA ?_ | refine andT ?_); conv => whnf) | (refine iteP_intro (fun hb => ?_) (fun hb => ?_) <;> (conv => whnf)))
  (refine ⟨_, hAl, ?_⟩; conv => whnf)
  repeat' (first | ((first | refine opt_some (getC_rows rfl rfl (by omega)) ?_ | refine opt_some (by dsimp only; exact getC_lent rfl rfl (by omega)) ?_ | refine opt_some rfl ?_ | refine ⟨_, (by simp only [nf, nl, nm, en, ints, setC_setC, Nat.reduceAdd, Nat.reduceMul]; exact rfl), ?_⟩ | refine ⟨_, pickT rfl, ?_⟩ | refine ⟨_, rfl, ?_⟩ | refine iteP_true rfl ?_ | refine iteP_false rfl ?_ | refine iteP_true ‹_› ?_ | refine iteP_false ‹_› ?_ | refine andK ?_ | refine andA ?_ | refine andT ?_); conv => whnf) | (refine iteP_intro (fun hb => ?_) (fun hb => ?_) <;> (conv => whnf)))
  refine ⟨fun k vs => ∃ i : Nat, i ≤ xs.length ∧ vs = [.one (.ptr [i64 ms.length, .shd (ints (natI ms))]), .one (i64 (sumI (xs.take i))), .one (i64 xs.length), .one (i64 i), .one (.shd (ints xs)), .one (.shd (ints xs))] ∧ k = xs.length - i, rfl, ⟨_, 0, by omega, rfl, rfl⟩, ?_⟩
  rintro k vs ⟨i, hi, rfl, rfl⟩
  have hpi := hpre i hi
  repeat (first | ((first | refine opt_some (getC_rows rfl rfl (by omega)) ?_ | refine opt_some (by dsimp only; exact getC_lent rfl rfl (by omega)) ?_ | refine opt_some rfl ?_ | refine ⟨_, (by simp only [nf, nl, nm, en, ints, setC_setC, Nat.reduceAdd, Nat.reduceMul]; exact rfl), ?_⟩ | refine ⟨_, pickT rfl, ?_⟩ | refine ⟨_, rfl, ?_⟩ | refine iteP_true rfl ?_ | refine iteP_false rfl ?_ | refine iteP_true ‹_› ?_ | refine iteP_false ‹_› ?_ | refine andK ?_ | refine andA ?_ | refine andT ?_); conv => whnf))
  refine iteP_intro (fun hb => ?_) (fun hb => ?_) <;> (conv => whnf)
  · have hi' : i < xs.length := by have := leT hb; omega
    have hst := sumI_take hi'
    have hri := hrg _ (List.getElem_mem hi')
    have e2 : IntKind.i64.wrap (sumI (xs.take i) + xs[i]) = sumI (xs.take (i + 1)) := by rw [hst]; exact wrap_i64 (by omega) (by omega)
    repeat (first | ((first | refine opt_some (getC_rows rfl rfl (by omega)) ?_ | refine opt_some (by dsimp only; exact getC_lent rfl rfl (by omega)) ?_ | refine opt_some rfl ?_ | refine ⟨_, (by simp only [nf, nl, nm, en, ints, setC_setC, Nat.reduceAdd, Nat.reduceMul, e2]; exact rfl), ?_⟩ | refine ⟨_, pickT rfl, ?_⟩ | refine ⟨_, rfl, ?_⟩ | refine iteP_true rfl ?_ | refine iteP_false rfl ?_ | refine iteP_true ‹_› ?_ | refine iteP_false ‹_› ?_ | refine andK ?_ | refine andA ?_ | refine andT ?_); conv => whnf))
    refine ⟨_, ?_, i + 1, hi', ?_, rfl⟩
    · omega
    · rw [wrap_succ (by omega)]
      rfl
  have hie : i = xs.length := by have := leF hb; omega
  rw [hie, htot]
  by_cases hs24 : sumI xs ≤ 24
  rotate_left
  · have hgt : decide (sumI xs > 24) = true := decide_eq_true (by omega)
    have hsc : scanC xs 0 = false := by
      cases hs : scanC xs 0 with
      | false => rfl
      | true =>
        have := ((scan_iff (by omega)).1 hs).2
        omega
    rw [coR_out h1 (by rw [hsc, Bool.and_false])]
    repeat (first | ((first | refine opt_some (getC_rows rfl rfl (by omega)) ?_ | refine opt_some (by dsimp only; exact getC_lent rfl rfl (by omega)) ?_ | refine opt_some rfl ?_ | refine ⟨_, (by simp only [nf, nl, nm, en, ints, setC_setC, Nat.reduceAdd, Nat.reduceMul, hgt]; exact rfl), ?_⟩ | refine ⟨_, pickT rfl, ?_⟩ | refine ⟨_, rfl, ?_⟩ | refine iteP_true rfl ?_ | refine iteP_false rfl ?_ | refine iteP_true ‹_› ?_ | refine iteP_false ‹_› ?_ | refine andK ?_ | refine andA ?_ | refine andT ?_); conv => whnf))
    rfl
  have hgt : decide (sumI xs > 24) = false := decide_eq_false (by omega)
  have hcr := hcr hs24
  obtain ⟨c, c1, rfl, c3, hsc⟩ := hcr
  have hcl := natI_length c
  have hp8 : 2 ^ ms.length ≤ 2 ^ 8 := Nat.pow_le_pow_right (by decide) hl
  have hsl := stepL_len (dep ms) ms.length
  have hkn0 : KnownZ (stepL (dep ms) ms.length) ms.length [] := fun e h => by cases h
  have hCt := ccount_ex (stepL (dep ms) ms.length) ms.length hl (by omega) (fun s hs => stepL_lt hs) (smC c) c [] rfl (by omega) c3 hkn0
  obtain ⟨r2, ⟨es2, rfl, -⟩, hr2⟩ := hCt
  have hco : cntOf (natI ms) (natI c) = valC (stepL (dep ms) ms.length) c := by unfold cntOf; rw [e1, c1]
  rw [coR_in h1 (by rw [decide_eq_true hln, hsc]; rfl), hco]
  unfold memoZ at hr2
  by_cases hB : 1000000000000000 < valC (stepL (dep ms) ms.length) c
  · rw [if_pos hB]
    have hgv : decide (valC (stepL (dep ms) ms.length) c > 1000000000000000) = true := decide_eq_true hB
    repeat (first | ((first | refine opt_some (getC_rows rfl rfl (by omega)) ?_ | refine opt_some (by dsimp only; exact getC_lent rfl rfl (by omega)) ?_ | refine opt_some rfl ?_ | refine ⟨_, (by simp only [nf, nl, nm, en, ints, setC_setC, Nat.reduceAdd, Nat.reduceMul, hgt]; exact rfl), ?_⟩ | refine ⟨_, pickT rfl, ?_⟩ | refine ⟨_, rfl, ?_⟩ | refine iteP_true rfl ?_ | refine iteP_false rfl ?_ | refine iteP_true ‹_› ?_ | refine iteP_false ‹_› ?_ | refine andK ?_ | refine andA ?_ | refine andT ?_); conv => whnf))
    (refine ⟨_, hSt, ?_⟩; conv => whnf)
    repeat (first | ((first | refine opt_some (getC_rows rfl rfl (by omega)) ?_ | refine opt_some (by dsimp only; exact getC_lent rfl rfl (by omega)) ?_ | refine opt_some rfl ?_ | refine ⟨_, (by simp only [nf, nl, nm, en, ints, setC_setC, Nat.reduceAdd, Nat.reduceMul]; exact rfl), ?_⟩ | refine ⟨_, pickT rfl, ?_⟩ | refine ⟨_, rfl, ?_⟩ | refine iteP_true rfl ?_ | refine iteP_false rfl ?_ | refine iteP_true ‹_› ?_ | refine iteP_false ‹_› ?_ | refine andK ?_ | refine andA ?_ | refine andT ?_); conv => whnf))
    (refine ⟨_, hr2, ?_⟩; conv => whnf)
    repeat (first | ((first | refine opt_some (getC_rows rfl rfl (by omega)) ?_ | refine opt_some (by dsimp only; exact getC_lent rfl rfl (by omega)) ?_ | refine opt_some rfl ?_ | refine ⟨_, (by simp only [nf, nl, nm, en, ints, setC_setC, Nat.reduceAdd, Nat.reduceMul, hgv]; exact rfl), ?_⟩ | refine ⟨_, pickT rfl, ?_⟩ | refine ⟨_, rfl, ?_⟩ | refine iteP_true rfl ?_ | refine iteP_false rfl ?_ | refine iteP_true ‹_› ?_ | refine iteP_false ‹_› ?_ | refine andK ?_ | refine andA ?_ | refine andT ?_); conv => whnf))
    rfl
  · rw [if_neg hB]
    have hgv : decide (valC (stepL (dep ms) ms.length) c > 1000000000000000) = false := decide_eq_false hB
    repeat (first | ((first | refine opt_some (getC_rows rfl rfl (by omega)) ?_ | refine opt_some (by dsimp only; exact getC_lent rfl rfl (by omega)) ?_ | refine opt_some rfl ?_ | refine ⟨_, (by simp only [nf, nl, nm, en, ints, setC_setC, Nat.reduceAdd, Nat.reduceMul, hgt]; exact rfl), ?_⟩ | refine ⟨_, pickT rfl, ?_⟩ | refine ⟨_, rfl, ?_⟩ | refine iteP_true rfl ?_ | refine iteP_false rfl ?_ | refine iteP_true ‹_› ?_ | refine iteP_false ‹_› ?_ | refine andK ?_ | refine andA ?_ | refine andT ?_); conv => whnf))
    (refine ⟨_, hSt, ?_⟩; conv => whnf)
    repeat (first | ((first | refine opt_some (getC_rows rfl rfl (by omega)) ?_ | refine opt_some (by dsimp only; exact getC_lent rfl rfl (by omega)) ?_ | refine opt_some rfl ?_ | refine ⟨_, (by simp only [nf, nl, nm, en, ints, setC_setC, Nat.reduceAdd, Nat.reduceMul]; exact rfl), ?_⟩ | refine ⟨_, pickT rfl, ?_⟩ | refine ⟨_, rfl, ?_⟩ | refine iteP_true rfl ?_ | refine iteP_false rfl ?_ | refine iteP_true ‹_› ?_ | refine iteP_false ‹_› ?_ | refine andK ?_ | refine andA ?_ | refine andT ?_); conv => whnf))
    (refine ⟨_, hr2, ?_⟩; conv => whnf)
    repeat (first | ((first | refine opt_some (getC_rows rfl rfl (by omega)) ?_ | refine opt_some (by dsimp only; exact getC_lent rfl rfl (by omega)) ?_ | refine opt_some rfl ?_ | refine ⟨_, (by simp only [nf, nl, nm, en, ints, setC_setC, Nat.reduceAdd, Nat.reduceMul, hgv]; exact rfl), ?_⟩ | refine ⟨_, pickT rfl, ?_⟩ | refine ⟨_, rfl, ?_⟩ | refine iteP_true rfl ?_ | refine iteP_false rfl ?_ | refine iteP_true ‹_› ?_ | refine iteP_false ‹_› ?_ | refine andK ?_ | refine andA ?_ | refine andT ?_); conv => whnf))
    rfl
end Go.Proofs.YtihdeagknggeiaaDoor
