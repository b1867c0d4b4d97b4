import Derived.Test.YtpopepcmfanegaaDoorFze
set_option autoImplicit false
set_option linter.unusedSimpArgs false
set_option linter.unusedVariables false
namespace Go.Proofs.YtpopepcmfanegaaDoor
open Go.Den
theorem swap_list : ∀ (i : Nat) (u : List Nat), i + 1 < u.length → (u.set i (u.getD (i + 1) 0)).set (i + 1) (u.getD i 0) = u.take i ++ ([u.getD (i + 1) 0, u.getD i 0] ++ u.drop (i + 2)) ∧ u = u.take i ++ ([u.getD i 0, u.getD (i + 1) 0] ++ u.drop (i + 2))
  | 0, [], h => by simp at h
  | 0, [x], h => by simp at h
  | 0, x :: y :: t, _ => by simp
  | i + 1, [], h => by simp at h
  | i + 1, x :: t, h => by
    obtain ⟨h1, h2⟩ := swap_list i t (by simpa using h)
    have e1 : (x :: t).getD (i + 1 + 1) 0 = t.getD (i + 1) 0 := by simp [List.getD_eq_getElem?_getD]
    have e2 : (x :: t).getD (i + 1) 0 = t.getD i 0 := by simp [List.getD_eq_getElem?_getD]
    rw [e1, e2]
    refine ⟨?_, ?_⟩
    · rw [List.set_cons_succ, List.set_cons_succ, h1]
      rfl
    · exact congrArg (x :: ·) h2
theorem eqv_two {ms : List Nat} (hA : Alpha ms) {x y : Nat} (h : dep ms x y = false) : Eqv ms [x, y] [y, x] := fun a b hd => by
  by_cases e : x = y
  · rw [e]
  · by_cases h1 : (x == a || x == b) = true
    · by_cases h2 : (y == a || y == b) = true
      · exfalso
        simp only [Bool.or_eq_true, beq_iff_eq] at h1 h2
        have hs := hA.sym x y
        rcases h1 with rfl | rfl <;> rcases h2 with rfl | rfl
        · exact e rfl
        · rw [h] at hd; cases hd
        · rw [← hs, h] at hd; cases hd
        · exact e rfl
      · simp only [pj, List.filter_cons, h1, h2]
        rfl
    · simp only [pj, List.filter_cons, h1]
      by_cases h2 : (y == a || y == b) = true
      · simp only [h2]
        rfl
      · simp only [h2]
        rfl
/-- Independent neighbours are exchanged. -/
def swpN (u : List Nat) (i : Nat) : List Nat := (u.set i (u.getD (i + 1) 0)).set (i + 1) (u.getD i 0)
theorem swpN_length (u : List Nat) (i : Nat) : (swpN u i).length = u.length := by simp [swpN]
theorem swpN_eqv {ms u : List Nat} (hA : Alpha ms) {i : Nat} (hi : i + 1 < u.length) (h : dep ms (u.getD i 0) (u.getD (i + 1) 0) = false) : Eqv ms u (swpN u i) := by
  obtain ⟨h1, h2⟩ := swap_list i u hi
  unfold swpN
  rw [h1]
  refine (show Eqv ms u (u.take i ++ ([u.getD i 0, u.getD (i + 1) 0] ++ u.drop (i + 2))) by rw [← h2]; exact .refl _ _).trans ?_
  exact (Eqv.refl ms _).append ((eqv_two hA h).append (.refl _ _))
theorem swpN_wd {ms u : List Nat} {i : Nat} (hi : i + 1 < u.length) (h : Wd ms u) : Wd ms (swpN u i) := by
  have hg : ∀ j, j < u.length → u.getD j 0 < ms.length := fun j hj => by
    rw [List.getD_eq_getElem?_getD, List.getElem?_eq_getElem hj, Option.getD_some]
    exact h _ (List.getElem_mem hj)
  intro c hc
  unfold swpN at hc
  rcases List.mem_or_eq_of_mem_set hc with hc | rfl
  · rcases List.mem_or_eq_of_mem_set hc with hc | rfl
    · exact h c hc
    · exact hg _ hi
  · exact hg _ (by omega)
theorem i64_small {n : Nat} (h : n < 2 ^ 62) : IntKind.i64.wrap (n : Int) = n := wrap_i64 (by omega) (by omega)
theorem mask_small8 {ms : List Nat} (hA : Alpha ms) (hl : ms.length ≤ 8) {a : Nat} (ha : a < ms.length) : ms.getD a 0 < 2 ^ 8 := by
  rw [List.getD_eq_getElem?_getD, List.getElem?_eq_getElem ha, Option.getD_some]
  exact Nat.lt_of_lt_of_le (hA.lt _ (List.getElem_mem ha)) (Nat.pow_le_pow_right (by decide) hl)
theorem u64_small {n : Nat} (h : n < 2 ^ 62) : IntKind.u64.wrap (n : Int) = n := by
  unfold IntKind.wrap
  simp [IntKind.signed, IntKind.bits]
  omega
theorem fdiv_bit (m c : Nat) (hc : c < 64) : (m : Int).fdiv (2 ^ min ((c : Int)).toNat IntKind.i64.bits) = ((m / 2 ^ c : Nat) : Int) := by
  rw [Int.toNat_natCast, show min c IntKind.i64.bits = c from Nat.min_eq_left (by show c ≤ 64; omega), show (2 : Int) ^ c = ((2 ^ c : Nat) : Int) by rw [Int.natCast_pow]; rfl]
  exact (Int.ofNat_fdiv _ _).symm
theorem and1_bit (m c : Nat) (hm : m < 2 ^ 62) : IntKind.i64.wrap ((BitVec.ofInt IntKind.i64.bits ((m / 2 ^ c : Nat) : Int) &&& BitVec.ofInt IntKind.i64.bits 1).toNat : Int) = ((m.testBit c).toNat : Int) := by
  have := and_i64 (a := m / 2 ^ c) (b := 1) (Nat.lt_of_le_of_lt (Nat.div_le_self _ _) (by omega))
  rw [show ((1 : Nat) : Int) = 1 from rfl] at this
  rw [this, Nat.and_one_is_mod, Nat.testBit_eq_decide_div_mod_eq]
  rcases Nat.mod_two_eq_zero_or_one (m / 2 ^ c) with h | h <;> simp [h]
set_option maxHeartbeats 4000000 in
set_option maxRecDepth 100000 in
theorem shuffle5_ex (bs : List Int) (hs : Src bs) (a h : Int) (ha : At0 bs a) (ms w : List Nat) (hA : Alpha ms) (hl : ms.length ≤ 8) (hw : Wd ms w) (hx : w.length ≤ 24) : ∃ r, (∃ (u : List Nat) (a' h' : Int), r = ⟨.one (ints (natI u)), [.one (srcC bs a' h')]⟩ ∧ At0 bs a' ∧ Eqv ms w u ∧ Wd ms u ∧ u.length = w.length) ∧ Ret Tryd.prog G0 28 [⟨.mu, .one (srcC bs a h)⟩, ⟨.ro, .agg [i64 ms.length, ints (natI ms)]⟩, ⟨.ro, .one (ints (natI w))⟩] r := by
  have hbe := fun a h ha n => below_ex bs hs a h n ha
  have hmn := natI_length ms
  have hwn := natI_length w
  unfold srcC byC at *
  (refine rete_of_den (E := en 65 [] (fun _ => [(0, 0), (4, 0), (7, 0), (8, 0), (65, 2)]) (fun _ => [])) tt_ok mixed Tryd.func28 rfl rfl rfl rfl ?_; refine ⟨by simp, ?_⟩)
  repeat' (first | ((first | refine opt_some (getC_rows rfl rfl (by omega)) ?_ | refine opt_some (by dsimp only; exact getC_lent rfl rfl (by omega)) ?_ | refine opt_some rfl ?_ | refine ⟨_, (by simp only [nf, nl, nm, en, ints, setC_setC, Nat.reduceAdd, Nat.reduceMul]; exact rfl), ?_⟩ | refine ⟨_, pickT rfl, ?_⟩ | refine ⟨_, rfl, ?_⟩ | refine iteP_true rfl ?_ | refine iteP_false rfl ?_ | refine iteP_true ‹_› ?_ | refine iteP_false ‹_› ?_ | refine andK ?_ | refine andA ?_ | refine andT ?_); conv => whnf) | (refine iteP_intro (fun hb => ?_) (fun hb => ?_) <;> (conv => whnf)))
  refine ⟨fun k vs => ∃ (n L : Nat) (u : List Nat) (a' h' : Int), L = (natI u).length ∧ n ≤ 30 ∧ At0 bs a' ∧ Eqv ms w u ∧ Wd ms u ∧ u.length = w.length ∧ vs = [.one (.ptr [.shd (.sl false 1 bs.length (bs.map u8c)), i64 a', .c (.int .u64 h')]), .one (.ptr [i64 ms.length, .shd (ints (natI ms))]), .one (.sl false 1 L ((natI u).map i64)), .one (i64 n), .dead] ∧ k = 30 - n, rfl, ⟨_, 0, _, w, a, h, Nat.zero_add _, by omega, ha, .refl _ _, hw, rfl, rfl, rfl⟩, ?_⟩
  rintro k vs ⟨n, L, u, a1, h1, rfl, hn, ha1, he, hu, hul, rfl, rfl⟩
  have hun := natI_length u
  repeat (first | ((first | refine opt_some (getC_rows rfl rfl (by omega)) ?_ | refine opt_some (by dsimp only; exact getC_lent rfl rfl (by omega)) ?_ | refine opt_some rfl ?_ | refine ⟨_, (by simp only [nf, nl, nm, en, ints, setC_setC, Nat.reduceAdd, Nat.reduceMul]; exact rfl), ?_⟩ | refine ⟨_, pickT rfl, ?_⟩ | refine ⟨_, rfl, ?_⟩ | refine iteP_true rfl ?_ | refine iteP_false rfl ?_ | refine iteP_true ‹_› ?_ | refine iteP_false ‹_› ?_ | refine andK ?_ | refine andA ?_ | refine andT ?_); conv => whnf))
  refine iteP_intro (fun hb => ?_) (fun hb => ?_) <;> (conv => whnf)
  · have hn' : n < 30 := by have := leT hb; omega
    have hw1 : IntKind.i64.wrap (((natI u).length : Int) - 1) = (u.length : Int) - 1 := by rw [hun]; exact wrap_i64 (by omega) (by omega)
    obtain ⟨r2, ⟨x2, a2, h2, rfl, ha2, hx20, hx21, hx22⟩, hr2⟩ := hbe a1 h1 ha1 ((u.length : Int) - 1)
    obtain ⟨p, rfl⟩ : ∃ p : Nat, x2 = p := ⟨x2.toNat, by omega⟩
    have hp : p ≤ 24 := by omega
    have hw2 : IntKind.i64.wrap ((p : Int) + 1) = ((p + 1 : Nat) : Int) := wrap_succ (by omega)
    repeat (first | ((first | refine opt_some (getC_rows rfl rfl (by omega)) ?_ | refine opt_some (by dsimp only; exact getC_lent rfl rfl (by omega)) ?_ | refine opt_some rfl ?_ | refine ⟨_, (by simp only [nf, nl, nm, en, ints, setC_setC, Nat.reduceAdd, Nat.reduceMul, hw1]; exact rfl), ?_⟩ | refine ⟨_, pickT rfl, ?_⟩ | refine ⟨_, rfl, ?_⟩ | refine iteP_true rfl ?_ | refine iteP_false rfl ?_ | refine iteP_true ‹_› ?_ | refine iteP_false ‹_› ?_ | refine andK ?_ | refine andA ?_ | refine andT ?_); conv => whnf))
    (refine ⟨_, hr2, ?_⟩; conv => whnf)
    repeat (first | ((first | refine opt_some (getC_rows rfl rfl (by omega)) ?_ | refine opt_some (by dsimp only; exact getC_lent rfl rfl (by omega)) ?_ | refine opt_some rfl ?_ | refine ⟨_, (by simp only [nf, nl, nm, en, ints, setC_setC, Nat.reduceAdd, Nat.reduceMul, hw2]; exact rfl), ?_⟩ | refine ⟨_, pickT rfl, ?_⟩ | refine ⟨_, rfl, ?_⟩ | refine iteP_true rfl ?_ | refine iteP_false rfl ?_ | refine iteP_true ‹_› ?_ | refine iteP_false ‹_› ?_ | refine andK ?_ | refine andA ?_ | refine andT ?_); conv => whnf))
    refine iteP_intro (fun hb => ?_) (fun hb => ?_) <;> (conv => whnf)
    · have hpu : p + 1 < u.length := by have := leT hb; omega
      have hga : (natI u)[p]'(by omega) = ((u.getD p 0 : Nat) : Int) := natI_getD (by omega)
      have hgb : (natI u)[p + 1]'(by omega) = ((u.getD (p + 1) 0 : Nat) : Int) := natI_getD (by omega)
      have hal : u.getD p 0 < ms.length := by
        rw [List.getD_eq_getElem?_getD, List.getElem?_eq_getElem (by omega), Option.getD_some]
        exact hu _ (List.getElem_mem (by omega))
      have hbl : u.getD (p + 1) 0 < ms.length := by
        rw [List.getD_eq_getElem?_getD, List.getElem?_eq_getElem (by omega), Option.getD_some]
        exact hu _ (List.getElem_mem (by omega))
      have hgm : (natI ms)[u.getD p 0]'(by omega) = ((ms.getD (u.getD p 0) 0 : Nat) : Int) := natI_getD hal
      have hu6 := u64_small (n := u.getD (p + 1) 0) (by omega)
      have hfd := fdiv_bit (ms.getD (u.getD p 0) 0) (u.getD (p + 1) 0) (by omega)
      have han := and1_bit (ms.getD (u.getD p 0) 0) (u.getD (p + 1) 0) (by have := mask_small8 hA hl hal; omega)
      repeat (first | ((first | refine opt_some (getC_rows rfl rfl (by omega)) ?_ | refine opt_some (by dsimp only; exact getC_lent rfl rfl (by omega)) ?_ | refine opt_some rfl ?_ | refine ⟨_, (by simp only [nf, nl, nm, en, ints, setC_setC, Nat.reduceAdd, Nat.reduceMul, hw2, hga, hgb, hgm, hu6, hfd, han]; exact rfl), ?_⟩ | refine ⟨_, pickT rfl, ?_⟩ | refine ⟨_, rfl, ?_⟩ | refine iteP_true rfl ?_ | refine iteP_false rfl ?_ | refine iteP_true ‹_› ?_ | refine iteP_false ‹_› ?_ | refine andK ?_ | refine andA ?_ | refine andT ?_); conv => whnf))
      refine iteP_intro (fun hb => ?_) (fun hb => ?_) <;> (conv => whnf)
      · have hdp : dep ms (u.getD p 0) (u.getD (p + 1) 0) = false := by
          show (ms.getD (u.getD p 0) 0).testBit (u.getD (p + 1) 0) = false
          cases hq : (ms.getD (u.getD p 0) 0).testBit (u.getD (p + 1) 0) with
          | false => rfl
          | true => rw [hq] at hb; exact absurd hb (by decide)
        have hE1 : ∃ u1, u.set p (u.getD (p + 1) 0) = u1 := ⟨_, rfl⟩
        obtain ⟨u1, hu1⟩ := hE1
        have hu1l : u1.length = u.length := by rw [← hu1, List.length_set]
        have hu1n := natI_length u1
        have hlen1 : (natI u).length = (natI u1).length := by omega
        have hsw : u1.set (p + 1) (u.getD p 0) = swpN u p := by rw [← hu1]; rfl
        have hlen2 : (natI u1).length = (natI (swpN u p)).length := by rw [natI_length (swpN u p), swpN_length]; omega
        repeat (first | ((first | refine opt_some (getC_rows rfl rfl (by omega)) ?_ | refine opt_some (by dsimp only; exact getC_lent rfl rfl (by omega)) ?_ | refine opt_some rfl ?_ | refine ⟨_, (by simp only [nf, nl, nm, en, ints, setC_setC, Nat.reduceAdd, Nat.reduceMul, hw2, hga, hgb, hgm, hu6, hfd, han]; exact rfl), ?_⟩ | refine ⟨_, pickT rfl, ?_⟩ | refine ⟨_, rfl, ?_⟩ | refine iteP_true rfl ?_ | refine iteP_false rfl ?_ | refine iteP_true ‹_› ?_ | refine iteP_false ‹_› ?_ | refine andK ?_ | refine andA ?_ | refine andT ?_); conv => whnf))
        refine ⟨⟨by rw [Int.toNat_natCast, List.length_map, hun]; show p * 1 + 1 ≤ _; omega, plain_i64 _⟩, ?_⟩
        conv => whnf
        refine ⟨_, by simp only [nf, nl, nm, en, ints, setC_setC, Nat.reduceAdd, Nat.reduceMul]; rw [natI_splice rfl (by omega) rfl, hu1, hlen1], ?_⟩
        conv => whnf
        repeat (first | ((first | refine opt_some (getC_rows rfl rfl (by omega)) ?_ | refine opt_some (by dsimp only; exact getC_lent rfl rfl (by omega)) ?_ | refine opt_some rfl ?_ | refine ⟨_, (by simp only [nf, nl, nm, en, ints, setC_setC, Nat.reduceAdd, Nat.reduceMul, hw2]; exact rfl), ?_⟩ | refine ⟨_, pickT rfl, ?_⟩ | refine ⟨_, rfl, ?_⟩ | refine iteP_true rfl ?_ | refine iteP_false rfl ?_ | refine iteP_true ‹_› ?_ | refine iteP_false ‹_› ?_ | refine andK ?_ | refine andA ?_ | refine andT ?_); conv => whnf))
        refine ⟨⟨by rw [Int.toNat_natCast, List.length_map, hu1n]; show (p + 1) * 1 + 1 ≤ _; omega, plain_i64 _⟩, ?_⟩
        conv => whnf
        refine ⟨_, by simp only [nf, nl, nm, en, ints, setC_setC, Nat.reduceAdd, Nat.reduceMul]; rw [natI_splice rfl (by omega) rfl, hsw, hlen2], ?_⟩
        conv => whnf
        repeat (first | ((first | refine opt_some (getC_rows rfl rfl (by omega)) ?_ | refine opt_some (by dsimp only; exact getC_lent rfl rfl (by omega)) ?_ | refine opt_some rfl ?_ | refine ⟨_, (by simp only [nf, nl, nm, en, ints, setC_setC, Nat.reduceAdd, Nat.reduceMul]; exact rfl), ?_⟩ | refine ⟨_, pickT rfl, ?_⟩ | refine ⟨_, rfl, ?_⟩ | refine iteP_true rfl ?_ | refine iteP_false rfl ?_ | refine iteP_true ‹_› ?_ | refine iteP_false ‹_› ?_ | refine andK ?_ | refine andA ?_ | refine andT ?_); conv => whnf))
        refine ⟨_, ?_, n + 1, _, swpN u p, a2, h2, rfl, by omega, ha2, he.trans (swpN_eqv hA hpu hdp), swpN_wd hpu hu, by rw [swpN_length]; exact hul, ?_, rfl⟩
        · omega
        · rw [wrap_succ (by omega)]
          rfl
      · repeat (first | ((first | refine opt_some (getC_rows rfl rfl (by omega)) ?_ | refine opt_some (by dsimp only; exact getC_lent rfl rfl (by omega)) ?_ | refine opt_some rfl ?_ | refine ⟨_, (by simp only [nf, nl, nm, en, ints, setC_setC, Nat.reduceAdd, Nat.reduceMul]; exact rfl), ?_⟩ | refine ⟨_, pickT rfl, ?_⟩ | refine ⟨_, rfl, ?_⟩ | refine iteP_true rfl ?_ | refine iteP_false rfl ?_ | refine iteP_true ‹_› ?_ | refine iteP_false ‹_› ?_ | refine andK ?_ | refine andA ?_ | refine andT ?_); conv => whnf))
        refine ⟨_, ?_, n + 1, _, u, a2, h2, rfl, by omega, ha2, he, hu, hul, ?_, rfl⟩
        · omega
        · rw [wrap_succ (by omega)]
          rfl
    · repeat (first | ((first | refine opt_some (getC_rows rfl rfl (by omega)) ?_ | refine opt_some (by dsimp only; exact getC_lent rfl rfl (by omega)) ?_ | refine opt_some rfl ?_ | refine ⟨_, (by simp only [nf, nl, nm, en, ints, setC_setC, Nat.reduceAdd, Nat.reduceMul]; exact rfl), ?_⟩ | refine ⟨_, pickT rfl, ?_⟩ | refine ⟨_, rfl, ?_⟩ | refine iteP_true rfl ?_ | refine iteP_false rfl ?_ | refine iteP_true ‹_› ?_ | refine iteP_false ‹_› ?_ | refine andK ?_ | refine andA ?_ | refine andT ?_); conv => whnf))
      refine ⟨_, ?_, n + 1, _, u, a2, h2, rfl, by omega, ha2, he, hu, hul, ?_, rfl⟩
      · omega
      · rw [wrap_succ (by omega)]
        rfl
  · repeat' (first | ((first | refine opt_some (getC_rows rfl rfl (by omega)) ?_ | refine opt_some (by dsimp only; exact getC_lent rfl rfl (by omega)) ?_ | refine opt_some rfl ?_ | refine ⟨_, (by simp only [nf, nl, nm, en, ints, setC_setC, Nat.reduceAdd, Nat.reduceMul]; exact rfl), ?_⟩ | refine ⟨_, pickT rfl, ?_⟩ | refine ⟨_, rfl, ?_⟩ | refine iteP_true rfl ?_ | refine iteP_false rfl ?_ | refine iteP_true ‹_› ?_ | refine iteP_false ‹_› ?_ | refine andK ?_ | refine andA ?_ | refine andT ?_); conv => whnf) | (refine iteP_intro (fun hb => ?_) (fun hb => ?_) <;> (conv => whnf)))
    exact ⟨u, a1, h1, rfl, ha1, he, hu, hul⟩
set_option maxHeartbeats 4000000 in
set_option maxRecDepth 100000 in
theorem drawImg_ex (bs : List Int) (hs : Src bs) : ∃ r, (∃ (ms : List Nat) (m : Int) (es : List Int) (rs : List (List Int)) (xs : List Int) (D : Cell), r = ⟨.tup [(true, [i64 ms.length, .shd (ints (natI ms))]), (true, [i64 m, D]), (false, [rowsI rs]), (false, [ints xs])], []⟩ ∧ Alpha ms ∧ ms.length ≤ 8 ∧ es.length ≤ 9 ∧ Rws rs ∧ xs.length ≤ 64 ∧ (D = ints es ∨ D = .shd (ints es))) ∧ Ret Tryd.prog G0 26 [⟨.ro, .one (byC bs)⟩] r := by
  obtain ⟨r0, ⟨ms, m, es, rs, D, a0, h0, rfl, hA, hl, ha0, hel, hR, hD⟩, hr0⟩ := three8_ex bs hs 5 (by omega) 3 (by omega)
  have hmn := natI_length ms
  obtain ⟨r1, ⟨xs, a1, h1, rfl, ha1, hx⟩, hr1⟩ := spoil3_ex bs hs a0 h0 ha0 ms.length (natI ms) (by omega) 12 (by omega)
  unfold srcC byC rowsI at *
  rcases hD with rfl | rfl
  all_goals
    (refine rete_of_den (E := en 23 [] (fun _ => []) (fun _ => [])) tt_ok mixed Tryd.func26 rfl rfl rfl rfl ?_; refine ⟨by simp, ?_⟩)
    repeat' (first | ((first | refine opt_some (getC_rows rfl rfl (by omega)) ?_ | refine opt_some (by dsimp only; exact getC_lent rfl rfl (by omega)) ?_ | refine opt_some rfl ?_ | refine ⟨_, (by simp only [nf, nl, nm, en, ints, setC_setC, Nat.reduceAdd, Nat.reduceMul]; exact rfl), ?_⟩ | refine ⟨_, pickT rfl, ?_⟩ | refine ⟨_, rfl, ?_⟩ | refine iteP_true rfl ?_ | refine iteP_false rfl ?_ | refine iteP_true ‹_› ?_ | refine iteP_false ‹_› ?_ | refine andK ?_ | refine andA ?_ | refine andT ?_); conv => whnf) | (refine iteP_intro (fun hb => ?_) (fun hb => ?_) <;> (conv => whnf)))
    (refine ⟨_, hr0, ?_⟩; conv => whnf)
    repeat' (first | ((first | refine opt_some (getC_rows rfl rfl (by omega)) ?_ | refine opt_some (by dsimp only; exact getC_lent rfl rfl (by omega)) ?_ | refine opt_some rfl ?_ | refine ⟨_, (by simp only [nf, nl, nm, en, ints, setC_setC, Nat.reduceAdd, Nat.reduceMul]; exact rfl), ?_⟩ | refine ⟨_, pickT rfl, ?_⟩ | refine ⟨_, rfl, ?_⟩ | refine iteP_true rfl ?_ | refine iteP_false rfl ?_ | refine iteP_true ‹_› ?_ | refine iteP_false ‹_› ?_ | refine andK ?_ | refine andA ?_ | refine andT ?_); conv => whnf) | (refine iteP_intro (fun hb => ?_) (fun hb => ?_) <;> (conv => whnf)))
    (refine ⟨_, hr1, ?_⟩; conv => whnf)
    repeat' (first | ((first | refine opt_some (getC_rows rfl rfl (by omega)) ?_ | refine opt_some (by dsimp only; exact getC_lent rfl rfl (by omega)) ?_ | refine opt_some rfl ?_ | refine ⟨_, (by simp only [nf, nl, nm, en, ints, setC_setC, Nat.reduceAdd, Nat.reduceMul]; exact rfl), ?_⟩ | refine ⟨_, pickT rfl, ?_⟩ | refine ⟨_, rfl, ?_⟩ | refine iteP_true rfl ?_ | refine iteP_false rfl ?_ | refine iteP_true ‹_› ?_ | refine iteP_false ‹_› ?_ | refine andK ?_ | refine andA ?_ | refine andT ?_); conv => whnf) | (refine iteP_intro (fun hb => ?_) (fun hb => ?_) <;> (conv => whnf)))
  · exact ⟨ms, m, es, rs, xs, _, rfl, hA, hl, hel, hR, hx, .inl rfl⟩
  · exact ⟨ms, m, es, rs, xs, _, rfl, hA, hl, hel, hR, hx, .inr rfl⟩
set_option maxHeartbeats 4000000 in
set_option maxRecDepth 100000 in
theorem concatI_ret (ms u v : List Nat) (hl : ms.length ≤ 8) (hA : Alpha ms) (hok : alphaOk ms.length (natI ms) = true) (hu : Wd ms u) (hv : Wd ms v) (hx : u.length ≤ 24) (hy : v.length ≤ 24) (hs : ¬ 24 < (u ++ v).length) : Ret Tryd.prog G0 29 [⟨.ro, .agg [i64 ms.length, ints (natI ms)]⟩, ⟨.ro, .one (ints (natI u))⟩, ⟨.ro, .one (ints (natI v))⟩] ⟨.tup [(false, [ints (natI (nform ms (u ++ v)))]), (false, [i64 0])], []⟩ := by
  have hml := natI_length ms
  have hul := natI_length u
  have hvl := natI_length v
  have hcw := checkWords_ret ms.length (natI ms) [natI u, natI v] (by omega) (by simp) (by simp; omega)
  have hti := ties_ret ms.length (natI ms)
  rw [hok, wcode_t] at hcw
  simp only [List.all_cons, List.all_nil, wordN_of hu hx, wordN_of hv hy, Bool.and_true] at hcw
  have hcc := concat_ret [natI u, natI v] (by simp) (by simp [tot]; omega)
  rw [show [natI u, natI v].flatten = natI (u ++ v) by simp [natI]] at hcc
  have hli := limited_ret ms (u ++ v) hA (by omega) (hu.append hv) (by rw [List.length_append]; omega)
  rw [if_neg hs, if_neg hs] at hli
  unfold rowsI at hcw hcc
  (refine ret_of_den (E := en 26 [] (fun _ => []) (fun _ => [])) tt_ok mixed Tryd.func29 rfl rfl rfl rfl ?_; refine ⟨by simp, ?_⟩)
  repeat' (first | ((first | refine opt_some (getC_rows rfl rfl (by omega)) ?_ | refine opt_some (by dsimp only; exact getC_lent rfl rfl (by omega)) ?_ | refine opt_some rfl ?_ | refine ⟨_, (by simp only [nf, nl, nm, en, ints, setC_setC, Nat.reduceAdd, Nat.reduceMul]; exact rfl), ?_⟩ | refine ⟨_, pickT rfl, ?_⟩ | refine ⟨_, rfl, ?_⟩ | refine iteP_true rfl ?_ | refine iteP_false rfl ?_ | refine iteP_true ‹_› ?_ | refine iteP_false ‹_› ?_ | refine andK ?_ | refine andA ?_ | refine andT ?_); conv => whnf) | (refine iteP_intro (fun hb => ?_) (fun hb => ?_) <;> (conv => whnf)))
  (refine ⟨_, hcw, ?_⟩; conv => whnf)
  repeat' (first | ((first | refine opt_some (getC_rows rfl rfl (by omega)) ?_ | refine opt_some (by dsimp only; exact getC_lent rfl rfl (by omega)) ?_ | refine opt_some rfl ?_ | refine ⟨_, (by simp only [nf, nl, nm, en, ints, setC_setC, Nat.reduceAdd, Nat.reduceMul]; exact rfl), ?_⟩ | refine ⟨_, pickT rfl, ?_⟩ | refine ⟨_, rfl, ?_⟩ | refine iteP_true rfl ?_ | refine iteP_false rfl ?_ | refine iteP_true ‹_› ?_ | refine iteP_false ‹_› ?_ | refine andK ?_ | refine andA ?_ | refine andT ?_); conv => whnf) | (refine iteP_intro (fun hb => ?_) (fun hb => ?_) <;> (conv => whnf)))
  (refine ⟨_, hti, ?_⟩; conv => whnf)
  repeat' (first | ((first | refine opt_some (getC_rows rfl rfl (by omega)) ?_ | refine opt_some (by dsimp only; exact getC_lent rfl rfl (by omega)) ?_ | refine opt_some rfl ?_ | refine ⟨_, (by simp only [nf, nl, nm, en, ints, setC_setC, Nat.reduceAdd, Nat.reduceMul]; exact rfl), ?_⟩ | refine ⟨_, pickT rfl, ?_⟩ | refine ⟨_, rfl, ?_⟩ | refine iteP_true rfl ?_ | refine iteP_false rfl ?_ | refine iteP_true ‹_› ?_ | refine iteP_false ‹_› ?_ | refine andK ?_ | refine andA ?_ | refine andT ?_); conv => whnf) | (refine iteP_intro (fun hb => ?_) (fun hb => ?_) <;> (conv => whnf)))
  (refine ⟨_, hcc, ?_⟩; conv => whnf)
  repeat' (first | ((first | refine opt_some (getC_rows rfl rfl (by omega)) ?_ | refine opt_some (by dsimp only; exact getC_lent rfl rfl (by omega)) ?_ | refine opt_some rfl ?_ | refine ⟨_, (by simp only [nf, nl, nm, en, ints, setC_setC, Nat.reduceAdd, Nat.reduceMul]; exact rfl), ?_⟩ | refine ⟨_, pickT rfl, ?_⟩ | refine ⟨_, rfl, ?_⟩ | refine iteP_true rfl ?_ | refine iteP_false rfl ?_ | refine iteP_true ‹_› ?_ | refine iteP_false ‹_› ?_ | refine andK ?_ | refine andA ?_ | refine andT ?_); conv => whnf) | (refine iteP_intro (fun hb => ?_) (fun hb => ?_) <;> (conv => whnf)))
  (refine ⟨_, hli, ?_⟩; conv => whnf)
  repeat' (first | ((first | refine opt_some (getC_rows rfl rfl (by omega)) ?_ | refine opt_some (by dsimp only; exact getC_lent rfl rfl (by omega)) ?_ | refine opt_some rfl ?_ | refine ⟨_, (by simp only [nf, nl, nm, en, ints, setC_setC, Nat.reduceAdd, Nat.reduceMul]; exact rfl), ?_⟩ | refine ⟨_, pickT rfl, ?_⟩ | refine ⟨_, rfl, ?_⟩ | refine iteP_true rfl ?_ | refine iteP_false rfl ?_ | refine iteP_true ‹_› ?_ | refine iteP_false ‹_› ?_ | refine andK ?_ | refine andA ?_ | refine andT ?_); conv => whnf) | (refine iteP_intro (fun hb => ?_) (fun hb => ?_) <;> (conv => whnf)))
  rfl
/-- A product of images. -/
theorem imgs_whole {ms ks u v : List Nat} {im : List (List Nat)} (hA : Alpha ms) (hB : Alpha ks) (hw : Wds ks im) (hr : respN ms ks im = true) (hu : Wd ms u) (hv : Wd ms v) (he : Eqv ms u v) (k : Nat) : nform ks (imgN im v) = nform ks (imgN im u) ∧ (imgN im v).length = (imgN im u).length ∧
    nform ks (nform ks (imgN im (v.take k)) ++ nform ks (imgN im (v.drop k))) = nform ks (imgN im u) ∧ (nform ks (imgN im (v.take k)) ++ nform ks (imgN im (v.drop k))).length = (imgN im u).length ∧ (imgN im (v.take k)).length ≤ (imgN im u).length ∧ (imgN im (v.drop k)).length ≤ (imgN im u).length := by
  have h1 := nform_nat hB (imgN_wd hw v) (imgN_wd hw u) (img_eqv hA hB hw hr hv hu he.symm)
  have e : imgN im (v.take k) ++ imgN im (v.drop k) = imgN im v := by rw [← imgN_append, List.take_append_drop]
  have ha := nform_eqv hB (imgN_wd hw (v.take k))
  have hb := nform_eqv hB (imgN_wd hw (v.drop k))
  have hwa := nform_wd hB (imgN_wd hw (v.take k))
  have hwb := nform_wd hB (imgN_wd hw (v.drop k))
  have h2 := ha.append hb
  rw [e] at h2
  have h3 := nform_nat hB (hwa.append hwb) (imgN_wd hw v) h2
  have hl : (imgN im (v.take k)).length + (imgN im (v.drop k)).length = (imgN im v).length := by rw [← e, List.length_append]
  exact ⟨h1.1, h1.2, h3.1.trans h1.1, h3.2.trans h1.2, by omega, by omega⟩
set_option maxHeartbeats 4000000 in
set_option maxRecDepth 100000 in
theorem lawMim_ret (bs : List Int) (hb : Byts bs) (hx : bs.length < 2 ^ 62) : Ret Tryd.prog G0 5 [⟨.ro, .one (byC bs)⟩] ⟨.one (.c (.bool true)), []⟩ := by
  by_cases hbig : bs.length ≤ 4096
  rotate_left
  · have hB := big_ret bs hx
    rw [decide_eq_true (by omega : 4096 < (bs.length : Int))] at hB
    unfold byC at *
    (refine ret_of_den (E := en 168 [] (fun _ => [(3, 0), (5, 0), (22, 0), (24, 0)]) (fun _ => [])) tt_ok mixed Tryd.func5 rfl rfl rfl rfl ?_; refine ⟨by simp, ?_⟩)
    repeat' (first | ((first | refine opt_some (getC_rows rfl rfl (by omega)) ?_ | refine opt_some (by dsimp only; exact getC_lent rfl rfl (by omega)) ?_ | refine opt_some rfl ?_ | refine ⟨_, (by simp only [nf, nl, nm, en, ints, setC_setC, Nat.reduceAdd, Nat.reduceMul]; exact rfl), ?_⟩ | refine ⟨_, pickT rfl, ?_⟩ | refine ⟨_, rfl, ?_⟩ | refine iteP_true rfl ?_ | refine iteP_false rfl ?_ | refine iteP_true ‹_› ?_ | refine iteP_false ‹_› ?_ | refine andK ?_ | refine andA ?_ | refine andT ?_); conv => whnf) | (refine iteP_intro (fun hb => ?_) (fun hb => ?_) <;> (conv => whnf)))
    (refine ⟨_, hB, ?_⟩; conv => whnf)
    repeat' (first | ((first | refine opt_some (getC_rows rfl rfl (by omega)) ?_ | refine opt_some (by dsimp only; exact getC_lent rfl rfl (by omega)) ?_ | refine opt_some rfl ?_ | refine ⟨_, (by simp only [nf, nl, nm, en, ints, setC_setC, Nat.reduceAdd, Nat.reduceMul]; exact rfl), ?_⟩ | refine ⟨_, pickT rfl, ?_⟩ | refine ⟨_, rfl, ?_⟩ | refine iteP_true rfl ?_ | refine iteP_false rfl ?_ | refine iteP_true ‹_› ?_ | refine iteP_false ‹_› ?_ | refine andK ?_ | refine andA ?_ | refine andT ?_); conv => whnf) | (refine iteP_intro (fun hb => ?_) (fun hb => ?_) <;> (conv => whnf)))
    rfl
  have hs : Src bs := ⟨hb, hbig⟩
  have hBg := big_ret bs hx
  rw [decide_eq_false (by omega : ¬ 4096 < (bs.length : Int))] at hBg
  obtain ⟨r0, ⟨ms, m, es, rs, xs, D, rfl, hA0, hml8, hel, hR, hxl, hD⟩, hr0⟩ := drawImg_ex bs hs
  have hmn := natI_length ms
  have hrx : ∀ r ∈ rs, r.length < 2 ^ 62 := fun r hr => by have := hR.2 r hr; omega
  have hrl := hR.1
  have hI := imageOfI_ret ms.length m (natI ms) es rs xs (by omega) (by omega) (by omega) hrx (by omega)
  have hS := imageOfS_ret ms.length m (natI ms) es rs xs (by omega) (by omega) (by omega) hrx (by omega)
  have hil := imgR_len ms.length (natI ms) m es rs xs
  have hlk := likeInts_ret (natI (imgR ms.length (natI ms) m es rs xs).1) (natI (imgR ms.length (natI ms) m es rs xs).1) (by omega)
  rw [decide_eq_true rfl] at hlk
  by_cases h0 : (imgR ms.length (natI ms) m es rs xs).2 = 0
  rotate_left
  · obtain ⟨c, hc⟩ : ∃ c, (imgR ms.length (natI ms) m es rs xs).2 = c := ⟨_, rfl⟩
    obtain ⟨y, hy⟩ : ∃ y, natI (imgR ms.length (natI ms) m es rs xs).1 = y := ⟨_, rfl⟩
    rw [hc] at hI hS h0
    rw [hy] at hI hS hlk
    have h1 : (c != c) = false := by simp
    have h2 : (c != 0) = true := by simpa using h0
    unfold byC rowsI at *
    rcases hD with rfl | rfl
    all_goals
      (refine ret_of_den (E := en 168 [] (fun _ => [(3, 0), (5, 0), (22, 0), (24, 0)]) (fun _ => [])) tt_ok mixed Tryd.func5 rfl rfl rfl rfl ?_; refine ⟨by simp, ?_⟩)
      repeat' (first | ((first | refine opt_some (getC_rows rfl rfl (by omega)) ?_ | refine opt_some (by dsimp only; exact getC_lent rfl rfl (by omega)) ?_ | refine opt_some rfl ?_ | refine ⟨_, (by simp only [nf, nl, nm, en, ints, setC_setC, Nat.reduceAdd, Nat.reduceMul]; exact rfl), ?_⟩ | refine ⟨_, pickT rfl, ?_⟩ | refine ⟨_, rfl, ?_⟩ | refine iteP_true rfl ?_ | refine iteP_false rfl ?_ | refine iteP_true ‹_› ?_ | refine iteP_false ‹_› ?_ | refine andK ?_ | refine andA ?_ | refine andT ?_); conv => whnf) | (refine iteP_intro (fun hb => ?_) (fun hb => ?_) <;> (conv => whnf)))
      (refine ⟨_, hBg, ?_⟩; conv => whnf)
      repeat' (first | ((first | refine opt_some (getC_rows rfl rfl (by omega)) ?_ | refine opt_some (by dsimp only; exact getC_lent rfl rfl (by omega)) ?_ | refine opt_some rfl ?_ | refine ⟨_, (by simp only [nf, nl, nm, en, ints, setC_setC, Nat.reduceAdd, Nat.reduceMul]; exact rfl), ?_⟩ | refine ⟨_, pickT rfl, ?_⟩ | refine ⟨_, rfl, ?_⟩ | refine iteP_true rfl ?_ | refine iteP_false rfl ?_ | refine iteP_true ‹_› ?_ | refine iteP_false ‹_› ?_ | refine andK ?_ | refine andA ?_ | refine andT ?_); conv => whnf) | (refine iteP_intro (fun hb => ?_) (fun hb => ?_) <;> (conv => whnf)))
      (refine ⟨_, hr0, ?_⟩; conv => whnf)
      repeat' (first | ((first | refine opt_some (getC_rows rfl rfl (by omega)) ?_ | refine opt_some (by dsimp only; exact getC_lent rfl rfl (by omega)) ?_ | refine opt_some rfl ?_ | refine ⟨_, (by simp only [nf, nl, nm, en, ints, setC_setC, Nat.reduceAdd, Nat.reduceMul]; exact rfl), ?_⟩ | refine ⟨_, pickT rfl, ?_⟩ | refine ⟨_, rfl, ?_⟩ | refine iteP_true rfl ?_ | refine iteP_false rfl ?_ | refine iteP_true ‹_› ?_ | refine iteP_false ‹_› ?_ | refine andK ?_ | refine andA ?_ | refine andT ?_); conv => whnf) | (refine iteP_intro (fun hb => ?_) (fun hb => ?_) <;> (conv => whnf)))
      (refine ⟨_, hI, ?_⟩; conv => whnf)
      repeat' (first | ((first | refine opt_some (getC_rows rfl rfl (by omega)) ?_ | refine opt_some (by dsimp only; exact getC_lent rfl rfl (by omega)) ?_ | refine opt_some rfl ?_ | refine ⟨_, (by simp only [nf, nl, nm, en, ints, setC_setC, Nat.reduceAdd, Nat.reduceMul]; exact rfl), ?_⟩ | refine ⟨_, pickT rfl, ?_⟩ | refine ⟨_, rfl, ?_⟩ | refine iteP_true rfl ?_ | refine iteP_false rfl ?_ | refine iteP_true ‹_› ?_ | refine iteP_false ‹_› ?_ | refine andK ?_ | refine andA ?_ | refine andT ?_); conv => whnf) | (refine iteP_intro (fun hb => ?_) (fun hb => ?_) <;> (conv => whnf)))
      (refine ⟨_, hS, ?_⟩; conv => whnf)
      repeat' (first | ((first | refine opt_some (getC_rows rfl rfl (by omega)) ?_ | refine opt_some (by dsimp only; exact getC_lent rfl rfl (by omega)) ?_ | refine opt_some rfl ?_ | refine ⟨_, (by simp only [nf, nl, nm, en, ints, setC_setC, Nat.reduceAdd, Nat.reduceMul]; exact rfl), ?_⟩ | refine ⟨_, pickT rfl, ?_⟩ | refine ⟨_, rfl, ?_⟩ | refine iteP_true rfl ?_ | refine iteP_false rfl ?_ | refine iteP_true ‹_› ?_ | refine iteP_false ‹_› ?_ | refine andK ?_ | refine andA ?_ | refine andT ?_); conv => whnf) | (refine iteP_intro (fun hb => ?_) (fun hb => ?_) <;> (conv => whnf)))
      (refine ⟨_, hlk, ?_⟩; conv => whnf)
      repeat' (first | ((first | refine opt_some (getC_rows rfl rfl (by omega)) ?_ | refine opt_some (by dsimp only; exact getC_lent rfl rfl (by omega)) ?_ | refine opt_some rfl ?_ | refine ⟨_, (by simp only [nf, nl, nm, en, ints, setC_setC, Nat.reduceAdd, Nat.reduceMul]; exact rfl), ?_⟩ | refine ⟨_, pickT rfl, ?_⟩ | refine ⟨_, rfl, ?_⟩ | refine iteP_true rfl ?_ | refine iteP_false rfl ?_ | refine iteP_true ‹_› ?_ | refine iteP_false ‹_› ?_ | refine andK ?_ | refine andA ?_ | refine andT ?_); conv => whnf) | (refine iteP_intro (fun hb => ?_) (fun hb => ?_) <;> (conv => whnf)))
      rfl
  have hM0 : morphC ms.length (natI ms) m es rs (wordN ms.length xs) = 0 := by
    by_cases h : morphC ms.length (natI ms) m es rs (wordN ms.length xs) = 0
    · exact h
    · rw [imgR_bad h] at h0; exact absurd h0 h
  have hmk := morph_ok hM0
  have hmc := morphC_ok hM0
  obtain ⟨ms', ks, im, e1', e2, e3, -, ed, -, hA, rfl, rfl, hkl, hB, rfl, hi, hw, hok⟩ := hmk
  have he : ms = ms' := by rw [← map_toNat ms, ed, map_toNat]
  subst he
  obtain ⟨q1, q2, -, -, hr⟩ := hmc
  rw [e1', e2, e3] at hr
  have hwn := word_nat hok
  obtain ⟨w, e4, rfl, hwl, hwc⟩ := hwn
  have hwd : Wd ms w := word_wd hwc
  have hwn := natI_length w
  have hkn := natI_length ks
  have himn : (im.map natI).length = im.length := List.length_map _
  rw [imgR_in q1 q2 e1' e2 hi hw hr hwd hwl] at hI hS hlk h0
  by_cases hlen : 24 < (imgN im w).length
  · rw [if_pos hlen] at h0
    cases h0
  rw [if_neg hlen] at hI hS hlk
  have hVl : (nform ks (imgN im w)).length ≤ 24 := by rw [nform_length hB (imgN_wd hw w)]; omega
  obtain ⟨r1, ⟨g1, rfl⟩, hr1⟩ := roll_ex bs hs 513
  have ha0 : At0 bs 0 := ⟨by omega, by omega⟩
  obtain ⟨r2, ⟨u, a2, g2, rfl, ha2, heq, hu, hul⟩, hr2⟩ := shuffle5_ex bs hs 0 g1 ha0 ms w hA0 hml8 hwd hwl
  have hun := natI_length u
  obtain ⟨r3, ⟨x3, a3, g3, rfl, ha3, hx30, -, hx31⟩, hr3⟩ := below_ex bs hs a2 g2 ((u.length : Int) + 1) ha2
  have hx31 := hx31 (by omega)
  obtain ⟨k, rfl⟩ : ∃ k : Nat, x3 = k := ⟨x3.toNat, by omega⟩
  have hkl2 : k ≤ u.length := by omega
  obtain ⟨f1, f2, f3, f4, f5, f6⟩ := imgs_whole hA0 hB hw hr hwd hu heq k
  have htd : Wd ms (u.take k) := fun c hc => hu c (List.mem_of_mem_take hc)
  have hdd : Wd ms (u.drop k) := fun c hc => hu c (List.mem_of_mem_drop hc)
  have htl : (u.take k).length ≤ 24 := by rw [List.length_take]; omega
  have hdl : (u.drop k).length ≤ 24 := by rw [List.length_drop]; omega
  have htn := natI_length (u.take k)
  have hdn := natI_length (u.drop k)
  have hI2 := imageOfI_ret ms.length ks.length (natI ms) (natI ks) (im.map natI) (natI u) (by omega) (by omega) (by omega) hrx (by omega)
  rw [imgR_in q1 q2 e1' e2 hi hw hr hu (by omega), f2, if_neg hlen, f1] at hI2
  have hI3 := imageOfI_ret ms.length ks.length (natI ms) (natI ks) (im.map natI) (natI (u.take k)) (by omega) (by omega) (by omega) hrx (by omega)
  rw [imgR_in q1 q2 e1' e2 hi hw hr htd htl, if_neg (by omega)] at hI3
  have hI4 := imageOfI_ret ms.length ks.length (natI ms) (natI ks) (im.map natI) (natI (u.drop k)) (by omega) (by omega) (by omega) hrx (by omega)
  rw [imgR_in q1 q2 e1' e2 hi hw hr hdd hdl, if_neg (by omega)] at hI4
  have hC := concatI_ret ks (nform ks (imgN im (u.take k))) (nform ks (imgN im (u.drop k))) hkl hB q2 (nform_wd hB (imgN_wd hw _)) (nform_wd hB (imgN_wd hw _)) (by rw [nform_length hB (imgN_wd hw _)]; omega) (by rw [nform_length hB (imgN_wd hw _)]; omega) (by rw [f4]; exact hlen)
  rw [f3] at hC
  have hM := isMorI_ret ms.length ks.length (natI ms) (natI ks) (im.map natI) (by omega) (by omega) (by omega) hrx
  rw [morph_0 q1 q2 e1' e2 hi hw hr, decide_eq_true rfl] at hM
  have hE := erasedI_ret ms.length ks.length (natI ms) (natI ks) (im.map natI) (by omega) (by omega) (by omega) hrx
  rw [eraR_ok (morph_0 q1 q2 e1' e2 hi hw hr) (map_nat im)] at hE
  have hMb : ∀ c < im.length, (maskN (noImg im) im.length).testBit c = decide ((im.getD c []).length = 0) := fun c hc => by
    rw [maskN_bit, decide_eq_true hc, Bool.true_and]
    rfl
  have hMl : maskN (noImg im) im.length < 2 ^ 8 := Nat.lt_of_lt_of_le (maskN_lt _ _) (Nat.pow_le_pow_right (by decide) (by omega))
  obtain ⟨M, hM1⟩ : ∃ M, maskN (noImg im) im.length = M := ⟨_, rfl⟩
  rw [hM1] at hE hMb hMl
  have hw1 : IntKind.i64.wrap (((natI u).length : Int) + 1) = (u.length : Int) + 1 := by rw [hun]; exact wrap_succ (by omega)
  have t1 : Cell.sl false 1 (k : Int).toNat (((natI u).map i64).take ((k : Int).toNat * 1)) = ints (natI (u.take k)) := by rw [cut_hi (by omega), natI_take]
  have t2 : Cell.sl false 1 ((natI u).length - (k : Int).toNat) (((natI u).map i64).drop ((k : Int).toNat * 1)) = ints (natI (u.drop k)) := by rw [cut_lo, natI_drop]
  obtain ⟨V, hV⟩ : ∃ V, nform ks (imgN im w) = V := ⟨_, rfl⟩
  rw [hV] at hI hS hlk hI2 hC
  unfold srcC byC rowsI at *
  rcases hD with rfl | rfl
  all_goals
    (refine ret_of_den (E := en 168 [] (fun _ => [(3, 0), (5, 0), (22, 0), (24, 0)]) (fun _ => [])) tt_ok mixed Tryd.func5 rfl rfl rfl rfl ?_; refine ⟨by simp, ?_⟩)
    repeat' (first | ((first | refine opt_some (getC_rows rfl rfl (by omega)) ?_ | refine opt_some (by dsimp only; exact getC_lent rfl rfl (by omega)) ?_ | refine opt_some rfl ?_ | refine ⟨_, (by simp only [nf, nl, nm, en, ints, setC_setC, Nat.reduceAdd, Nat.reduceMul]; exact rfl), ?_⟩ | refine ⟨_, pickT rfl, ?_⟩ | refine ⟨_, rfl, ?_⟩ | refine iteP_true rfl ?_ | refine iteP_false rfl ?_ | refine iteP_true ‹_› ?_ | refine iteP_false ‹_› ?_ | refine andK ?_ | refine andA ?_ | refine andT ?_); conv => whnf) | (refine iteP_intro (fun hb => ?_) (fun hb => ?_) <;> (conv => whnf)))
    (refine ⟨_, hBg, ?_⟩; conv => whnf)
    repeat' (first | ((first | refine opt_some (getC_rows rfl rfl (by omega)) ?_ | refine opt_some (by dsimp only; exact getC_lent rfl rfl (by omega)) ?_ | refine opt_some rfl ?_ | refine ⟨_, (by simp only [nf, nl, nm, en, ints, setC_setC, Nat.reduceAdd, Nat.reduceMul]; exact rfl), ?_⟩ | refine ⟨_, pickT rfl, ?_⟩ | refine ⟨_, rfl, ?_⟩ | refine iteP_true rfl ?_ | refine iteP_false rfl ?_ | refine iteP_true ‹_› ?_ | refine iteP_false ‹_› ?_ | refine andK ?_ | refine andA ?_ | refine andT ?_); conv => whnf) | (refine iteP_intro (fun hb => ?_) (fun hb => ?_) <;> (conv => whnf)))
    (refine ⟨_, hr0, ?_⟩; conv => whnf)
    repeat' (first | ((first | refine opt_some (getC_rows rfl rfl (by omega)) ?_ | refine opt_some (by dsimp only; exact getC_lent rfl rfl (by omega)) ?_ | refine opt_some rfl ?_ | refine ⟨_, (by simp only [nf, nl, nm, en, ints, setC_setC, Nat.reduceAdd, Nat.reduceMul]; exact rfl), ?_⟩ | refine ⟨_, pickT rfl, ?_⟩ | refine ⟨_, rfl, ?_⟩ | refine iteP_true rfl ?_ | refine iteP_false rfl ?_ | refine iteP_true ‹_› ?_ | refine iteP_false ‹_› ?_ | refine andK ?_ | refine andA ?_ | refine andT ?_); conv => whnf) | (refine iteP_intro (fun hb => ?_) (fun hb => ?_) <;> (conv => whnf)))
    (refine ⟨_, hI, ?_⟩; conv => whnf)
    repeat' (first | ((first | refine opt_some (getC_rows rfl rfl (by omega)) ?_ | refine opt_some (by dsimp only; exact getC_lent rfl rfl (by omega)) ?_ | refine opt_some rfl ?_ | refine ⟨_, (by simp only [nf, nl, nm, en, ints, setC_setC, Nat.reduceAdd, Nat.reduceMul]; exact rfl), ?_⟩ | refine ⟨_, pickT rfl, ?_⟩ | refine ⟨_, rfl, ?_⟩ | refine iteP_true rfl ?_ | refine iteP_false rfl ?_ | refine iteP_true ‹_› ?_ | refine iteP_false ‹_› ?_ | refine andK ?_ | refine andA ?_ | refine andT ?_); conv => whnf) | (refine iteP_intro (fun hb => ?_) (fun hb => ?_) <;> (conv => whnf)))
    (refine ⟨_, hS, ?_⟩; conv => whnf)
    repeat' (first | ((first | refine opt_some (getC_rows rfl rfl (by omega)) ?_ | refine opt_some (by dsimp only; exact getC_lent rfl rfl (by omega)) ?_ | refine opt_some rfl ?_ | refine ⟨_, (by simp only [nf, nl, nm, en, ints, setC_setC, Nat.reduceAdd, Nat.reduceMul]; exact rfl), ?_⟩ | refine ⟨_, pickT rfl, ?_⟩ | refine ⟨_, rfl, ?_⟩ | refine iteP_true rfl ?_ | refine iteP_false rfl ?_ | refine iteP_true ‹_› ?_ | refine iteP_false ‹_› ?_ | refine andK ?_ | refine andA ?_ | refine andT ?_); conv => whnf) | (refine iteP_intro (fun hb => ?_) (fun hb => ?_) <;> (conv => whnf)))
    (refine ⟨_, hlk, ?_⟩; conv => whnf)
    repeat' (first | ((first | refine opt_some (getC_rows rfl rfl (by omega)) ?_ | refine opt_some (by dsimp only; exact getC_lent rfl rfl (by omega)) ?_ | refine opt_some rfl ?_ | refine ⟨_, (by simp only [nf, nl, nm, en, ints, setC_setC, Nat.reduceAdd, Nat.reduceMul]; exact rfl), ?_⟩ | refine ⟨_, pickT rfl, ?_⟩ | refine ⟨_, rfl, ?_⟩ | refine iteP_true rfl ?_ | refine iteP_false rfl ?_ | refine iteP_true ‹_› ?_ | refine iteP_false ‹_› ?_ | refine andK ?_ | refine andA ?_ | refine andT ?_); conv => whnf) | (refine iteP_intro (fun hb => ?_) (fun hb => ?_) <;> (conv => whnf)))
    (refine ⟨_, hr1, ?_⟩; conv => whnf)
    repeat' (first | ((first | refine opt_some (getC_rows rfl rfl (by omega)) ?_ | refine opt_some (by dsimp only; exact getC_lent rfl rfl (by omega)) ?_ | refine opt_some rfl ?_ | refine ⟨_, (by simp only [nf, nl, nm, en, ints, setC_setC, Nat.reduceAdd, Nat.reduceMul]; exact rfl), ?_⟩ | refine ⟨_, pickT rfl, ?_⟩ | refine ⟨_, rfl, ?_⟩ | refine iteP_true rfl ?_ | refine iteP_false rfl ?_ | refine iteP_true ‹_› ?_ | refine iteP_false ‹_› ?_ | refine andK ?_ | refine andA ?_ | refine andT ?_); conv => whnf) | (refine iteP_intro (fun hb => ?_) (fun hb => ?_) <;> (conv => whnf)))
    (refine ⟨_, hr2, ?_⟩; conv => whnf)
    repeat' (first | ((first | refine opt_some (getC_rows rfl rfl (by omega)) ?_ | refine opt_some (by dsimp only; exact getC_lent rfl rfl (by omega)) ?_ | refine opt_some rfl ?_ | refine ⟨_, (by simp only [nf, nl, nm, en, ints, setC_setC, Nat.reduceAdd, Nat.reduceMul]; exact rfl), ?_⟩ | refine ⟨_, pickT rfl, ?_⟩ | refine ⟨_, rfl, ?_⟩ | refine iteP_true rfl ?_ | refine iteP_false rfl ?_ | refine iteP_true ‹_› ?_ | refine iteP_false ‹_› ?_ | refine andK ?_ | refine andA ?_ | refine andT ?_); conv => whnf) | (refine iteP_intro (fun hb => ?_) (fun hb => ?_) <;> (conv => whnf)))
    (refine ⟨_, hI2, ?_⟩; conv => whnf)
    repeat' (first | ((first | refine opt_some (getC_rows rfl rfl (by omega)) ?_ | refine opt_some (by dsimp only; exact getC_lent rfl rfl (by omega)) ?_ | refine opt_some rfl ?_ | refine ⟨_, (by simp only [nf, nl, nm, en, ints, setC_setC, Nat.reduceAdd, Nat.reduceMul, hw1]; exact rfl), ?_⟩ | refine ⟨_, pickT rfl, ?_⟩ | refine ⟨_, rfl, ?_⟩ | refine iteP_true rfl ?_ | refine iteP_false rfl ?_ | refine iteP_true ‹_› ?_ | refine iteP_false ‹_› ?_ | refine andK ?_ | refine andA ?_ | refine andT ?_); conv => whnf) | (refine iteP_intro (fun hb => ?_) (fun hb => ?_) <;> (conv => whnf)))
    (refine ⟨_, hr3, ?_⟩; conv => whnf)
    repeat' (first | ((first | refine opt_some (getC_rows rfl rfl (by omega)) ?_ | refine opt_some (by dsimp only; exact getC_lent rfl rfl (by omega)) ?_ | refine opt_some rfl ?_ | refine ⟨_, (by simp only [nf, nl, nm, en, ints, setC_setC, Nat.reduceAdd, Nat.reduceMul, t1, t2]; exact rfl), ?_⟩ | refine ⟨_, pickT rfl, ?_⟩ | refine ⟨_, rfl, ?_⟩ | refine iteP_true rfl ?_ | refine iteP_false rfl ?_ | refine iteP_true ‹_› ?_ | refine iteP_false ‹_› ?_ | refine andK ?_ | refine andA ?_ | refine andT ?_); conv => whnf) | (refine iteP_intro (fun hb => ?_) (fun hb => ?_) <;> (conv => whnf)))
    (refine ⟨_, hI3, ?_⟩; conv => whnf)
    repeat' (first | ((first | refine opt_some (getC_rows rfl rfl (by omega)) ?_ | refine opt_some (by dsimp only; exact getC_lent rfl rfl (by omega)) ?_ | refine opt_some rfl ?_ | refine ⟨_, (by simp only [nf, nl, nm, en, ints, setC_setC, Nat.reduceAdd, Nat.reduceMul, t1, t2]; exact rfl), ?_⟩ | refine ⟨_, pickT rfl, ?_⟩ | refine ⟨_, rfl, ?_⟩ | refine iteP_true rfl ?_ | refine iteP_false rfl ?_ | refine iteP_true ‹_› ?_ | refine iteP_false ‹_› ?_ | refine andK ?_ | refine andA ?_ | refine andT ?_); conv => whnf) | (refine iteP_intro (fun hb => ?_) (fun hb => ?_) <;> (conv => whnf)))
    (refine ⟨_, hI4, ?_⟩; conv => whnf)
    repeat' (first | ((first | refine opt_some (getC_rows rfl rfl (by omega)) ?_ | refine opt_some (by dsimp only; exact getC_lent rfl rfl (by omega)) ?_ | refine opt_some rfl ?_ | refine ⟨_, (by simp only [nf, nl, nm, en, ints, setC_setC, Nat.reduceAdd, Nat.reduceMul, t1, t2]; exact rfl), ?_⟩ | refine ⟨_, pickT rfl, ?_⟩ | refine ⟨_, rfl, ?_⟩ | refine iteP_true rfl ?_ | refine iteP_false rfl ?_ | refine iteP_true ‹_› ?_ | refine iteP_false ‹_› ?_ | refine andK ?_ | refine andA ?_ | refine andT ?_); conv => whnf) | (refine iteP_intro (fun hb => ?_) (fun hb => ?_) <;> (conv => whnf)))
    (refine ⟨_, hC, ?_⟩; conv => whnf)
    repeat' (first | ((first | refine opt_some (getC_rows rfl rfl (by omega)) ?_ | refine opt_some (by dsimp only; exact getC_lent rfl rfl (by omega)) ?_ | refine opt_some rfl ?_ | refine ⟨_, (by simp only [nf, nl, nm, en, ints, setC_setC, Nat.reduceAdd, Nat.reduceMul]; exact rfl), ?_⟩ | refine ⟨_, pickT rfl, ?_⟩ | refine ⟨_, rfl, ?_⟩ | refine iteP_true rfl ?_ | refine iteP_false rfl ?_ | refine iteP_true ‹_› ?_ | refine iteP_false ‹_› ?_ | refine andK ?_ | refine andA ?_ | refine andT ?_); conv => whnf) | (refine iteP_intro (fun hb => ?_) (fun hb => ?_) <;> (conv => whnf)))
    (refine ⟨_, hlk, ?_⟩; conv => whnf)
    repeat' (first | ((first | refine opt_some (getC_rows rfl rfl (by omega)) ?_ | refine opt_some (by dsimp only; exact getC_lent rfl rfl (by omega)) ?_ | refine opt_some rfl ?_ | refine ⟨_, (by simp only [nf, nl, nm, en, ints, setC_setC, Nat.reduceAdd, Nat.reduceMul]; exact rfl), ?_⟩ | refine ⟨_, pickT rfl, ?_⟩ | refine ⟨_, rfl, ?_⟩ | refine iteP_true rfl ?_ | refine iteP_false rfl ?_ | refine iteP_true ‹_› ?_ | refine iteP_false ‹_› ?_ | refine andK ?_ | refine andA ?_ | refine andT ?_); conv => whnf) | (refine iteP_intro (fun hb => ?_) (fun hb => ?_) <;> (conv => whnf)))
    (refine ⟨_, hlk, ?_⟩; conv => whnf)
    repeat' (first | ((first | refine opt_some (getC_rows rfl rfl (by omega)) ?_ | refine opt_some (by dsimp only; exact getC_lent rfl rfl (by omega)) ?_ | refine opt_some rfl ?_ | refine ⟨_, (by simp only [nf, nl, nm, en, ints, setC_setC, Nat.reduceAdd, Nat.reduceMul]; exact rfl), ?_⟩ | refine ⟨_, pickT rfl, ?_⟩ | refine ⟨_, rfl, ?_⟩ | refine iteP_true rfl ?_ | refine iteP_false rfl ?_ | refine iteP_true ‹_› ?_ | refine iteP_false ‹_› ?_ | refine andK ?_ | refine andA ?_ | refine andT ?_); conv => whnf) | (refine iteP_intro (fun hb => ?_) (fun hb => ?_) <;> (conv => whnf)))
    (refine ⟨_, hM, ?_⟩; conv => whnf)
    repeat' (first | ((first | refine opt_some (getC_rows rfl rfl (by omega)) ?_ | refine opt_some (by dsimp only; exact getC_lent rfl rfl (by omega)) ?_ | refine opt_some rfl ?_ | refine ⟨_, (by simp only [nf, nl, nm, en, ints, setC_setC, Nat.reduceAdd, Nat.reduceMul]; exact rfl), ?_⟩ | refine ⟨_, pickT rfl, ?_⟩ | refine ⟨_, rfl, ?_⟩ | refine iteP_true rfl ?_ | refine iteP_false rfl ?_ | refine iteP_true ‹_› ?_ | refine iteP_false ‹_› ?_ | refine andK ?_ | refine andA ?_ | refine andT ?_); conv => whnf) | (refine iteP_intro (fun hb => ?_) (fun hb => ?_) <;> (conv => whnf)))
    (refine ⟨_, hE, ?_⟩; conv => whnf)
    repeat' (first | ((first | refine opt_some (getC_rows rfl rfl (by omega)) ?_ | refine opt_some (by dsimp only; exact getC_lent rfl rfl (by omega)) ?_ | refine opt_some rfl ?_ | refine ⟨_, (by simp only [nf, nl, nm, en, ints, setC_setC, Nat.reduceAdd, Nat.reduceMul]; exact rfl), ?_⟩ | refine ⟨_, pickT rfl, ?_⟩ | refine ⟨_, rfl, ?_⟩ | refine iteP_true rfl ?_ | refine iteP_false rfl ?_ | refine iteP_true ‹_› ?_ | refine iteP_false ‹_› ?_ | refine andK ?_ | refine andA ?_ | refine andT ?_); conv => whnf) | (refine iteP_intro (fun hb => ?_) (fun hb => ?_) <;> (conv => whnf)))
    refine ⟨fun k vs => ∃ c : Nat, c ≤ ms.length ∧ vs = [.one (.ptr [i64 ms.length, .shd (ints (natI ms))]), .one (.sl false 1 (im.map natI).length ((im.map natI).map ints)), .one (i64 M), .one (i64 c)] ∧ k = ms.length - c, rfl, ⟨_, 0, by omega, rfl, rfl⟩, ?_⟩
    rintro k vs ⟨c, hc, rfl, rfl⟩
    repeat (first | ((first | refine opt_some (getC_rows rfl rfl (by omega)) ?_ | refine opt_some (by dsimp only; exact getC_lent rfl rfl (by omega)) ?_ | refine opt_some rfl ?_ | refine ⟨_, (by simp only [nf, nl, nm, en, ints, setC_setC, Nat.reduceAdd, Nat.reduceMul]; exact rfl), ?_⟩ | refine ⟨_, pickT rfl, ?_⟩ | refine ⟨_, rfl, ?_⟩ | refine iteP_true rfl ?_ | refine iteP_false rfl ?_ | refine iteP_true ‹_› ?_ | refine iteP_false ‹_› ?_ | refine andK ?_ | refine andA ?_ | refine andT ?_); conv => whnf))
    refine iteP_intro (fun hb => ?_) (fun hb => ?_) <;> (conv => whnf)
    · have hc' : c < ms.length := by have := leT hb; omega
      have hcm : c < im.length := by omega
      have hga := rows_get (im := im) hcm (by omega)
      have hbt := hMb c hcm
      have hgn := natI_length (im.getD c [])
      have hu6 := u64_small (n := c) (by omega)
      have hfd := fdiv_bit M c (by omega)
      have han := and1_bit M c (by omega)
      have hz : (!((((M.testBit c).toNat : Nat) : Int) == 1) == (((natI (im.getD c [])).length : Int) == 0)) = false := by
        rw [hbt, hgn]
        generalize (im.getD c []).length = q
        cases q with
        | zero => rfl
        | succ q =>
          have h1 : (((q + 1 : Nat) : Int) == 0) = false := by rw [beq_eq_false_iff_ne]; omega
          rw [decide_eq_false (by omega), h1]
          rfl
      repeat (first | ((first | refine opt_some (getC_rows rfl rfl (by omega)) ?_ | refine opt_some (by dsimp only; exact getC_lent rfl rfl (by omega)) ?_ | refine opt_some rfl ?_ | refine ⟨_, (by simp only [nf, nl, nm, en, ints, setC_setC, Nat.reduceAdd, Nat.reduceMul, hga, hu6, hfd, han]; exact rfl), ?_⟩ | refine ⟨_, pickT rfl, ?_⟩ | refine ⟨_, rfl, ?_⟩ | refine iteP_true rfl ?_ | refine iteP_false rfl ?_ | refine iteP_true ‹_› ?_ | refine iteP_false ‹_› ?_ | refine andK ?_ | refine andA ?_ | refine andT ?_); conv => whnf))
      refine ⟨_, ?_, c + 1, hc', ?_, rfl⟩
      · omega
      · rw [wrap_succ (by omega)]
        rfl
    · repeat' (first | ((first | refine opt_some (getC_rows rfl rfl (by omega)) ?_ | refine opt_some (by dsimp only; exact getC_lent rfl rfl (by omega)) ?_ | refine opt_some rfl ?_ | refine ⟨_, (by simp only [nf, nl, nm, en, ints, setC_setC, Nat.reduceAdd, Nat.reduceMul]; exact rfl), ?_⟩ | refine ⟨_, pickT rfl, ?_⟩ | refine ⟨_, rfl, ?_⟩ | refine iteP_true rfl ?_ | refine iteP_false rfl ?_ | refine iteP_true ‹_› ?_ | refine iteP_false ‹_› ?_ | refine andK ?_ | refine andA ?_ | refine andT ?_); conv => whnf) | (refine iteP_intro (fun hb => ?_) (fun hb => ?_) <;> (conv => whnf)))
      rfl
end Go.Proofs.YtpopepcmfanegaaDoor
