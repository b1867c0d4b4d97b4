import Derived.Test.YtpopepcmfanegaaDoorFzc
set_option autoImplicit false
set_option linter.unusedSimpArgs false
set_option linter.unusedVariables false
namespace Go.Proofs.YtpopepcmfanegaaDoor
open Go.Den
theorem swap_list : ∀ (i : Nat) (u : List Nat), i + 1 < u.length → (u.set i (u.getD (i + 1) 0)).set (i + 1) (u.getD i 0) = u.take i ++ ([u.getD (i + 1) 0, u.getD i 0] ++ u.drop (i + 2)) ∧ u = u.take i ++ ([u.getD i 0, u.getD (i + 1) 0] ++ u.drop (i + 2))
  | 0, [], h => by simp at h
  | 0, [x], h => by simp at h
  | 0, x :: y :: t, _ => by simp
  | i + 1, [], h => by simp at h
  | i + 1, x :: t, h => by
    obtain ⟨h1, h2⟩ := swap_list i t (by simpa using h)
    have e1 : (x :: t).getD (i + 1 + 1) 0 = t.getD (i + 1) 0 := by simp [List.getD_eq_getElem?_getD]
    have e2 : (x :: t).getD (i + 1) 0 = t.getD i 0 := by simp [List.getD_eq_getElem?_getD]
    rw [e1, e2]
    refine ⟨?_, ?_⟩
    · rw [List.set_cons_succ, List.set_cons_succ, h1]
      rfl
    · exact congrArg (x :: ·) h2
theorem eqv_two {ms : List Nat} (hA : Alpha ms) {x y : Nat} (h : dep ms x y = false) : Eqv ms [x, y] [y, x] := fun a b hd => by
  by_cases e : x = y
  · rw [e]
  · by_cases h1 : (x == a || x == b) = true
    · by_cases h2 : (y == a || y == b) = true
      · exfalso
        simp only [Bool.or_eq_true, beq_iff_eq] at h1 h2
        have hs := hA.sym x y
        rcases h1 with rfl | rfl <;> rcases h2 with rfl | rfl
        · exact e rfl
        · rw [h] at hd; cases hd
        · rw [← hs, h] at hd; cases hd
        · exact e rfl
      · simp only [pj, List.filter_cons, h1, h2]
        rfl
    · simp only [pj, List.filter_cons, h1]
      by_cases h2 : (y == a || y == b) = true
      · simp only [h2]
        rfl
      · simp only [h2]
        rfl
/-- Independent neighbours are exchanged. -/
def swpN (u : List Nat) (i : Nat) : List Nat := (u.set i (u.getD (i + 1) 0)).set (i + 1) (u.getD i 0)
theorem swpN_length (u : List Nat) (i : Nat) : (swpN u i).length = u.length := by simp [swpN]
theorem swpN_eqv {ms u : List Nat} (hA : Alpha ms) {i : Nat} (hi : i + 1 < u.length) (h : dep ms (u.getD i 0) (u.getD (i + 1) 0) = false) : Eqv ms u (swpN u i) := by
  obtain ⟨h1, h2⟩ := swap_list i u hi
  unfold swpN
  rw [h1]
  refine (show Eqv ms u (u.take i ++ ([u.getD i 0, u.getD (i + 1) 0] ++ u.drop (i + 2))) by rw [← h2]; exact .refl _ _).trans ?_
  exact (Eqv.refl ms _).append ((eqv_two hA h).append (.refl _ _))
theorem swpN_wd {ms u : List Nat} {i : Nat} (hi : i + 1 < u.length) (h : Wd ms u) : Wd ms (swpN u i) := by
  have hg : ∀ j, j < u.length → u.getD j 0 < ms.length := fun j hj => by
    rw [List.getD_eq_getElem?_getD, List.getElem?_eq_getElem hj, Option.getD_some]
    exact h _ (List.getElem_mem hj)
  intro c hc
  unfold swpN at hc
  rcases List.mem_or_eq_of_mem_set hc with hc | rfl
  · rcases List.mem_or_eq_of_mem_set hc with hc | rfl
    · exact h c hc
    · exact hg _ hi
  · exact hg _ (by omega)
theorem i64_small {n : Nat} (h : n < 2 ^ 62) : IntKind.i64.wrap (n : Int) = n := wrap_i64 (by omega) (by omega)
theorem mask_small8 {ms : List Nat} (hA : Alpha ms) (hl : ms.length ≤ 8) {a : Nat} (ha : a < ms.length) : ms.getD a 0 < 2 ^ 8 := by
  rw [List.getD_eq_getElem?_getD, List.getElem?_eq_getElem ha, Option.getD_some]
  exact Nat.lt_of_lt_of_le (hA.lt _ (List.getElem_mem ha)) (Nat.pow_le_pow_right (by decide) hl)
theorem u64_small {n : Nat} (h : n < 2 ^ 62) : IntKind.u64.wrap (n : Int) = n := by
  unfold IntKind.wrap
  simp [IntKind.signed, IntKind.bits]
  omega
theorem fdiv_bit (m c : Nat) (hc : c < 64) : (m : Int).fdiv (2 ^ min ((c : Int)).toNat IntKind.i64.bits) = ((m / 2 ^ c : Nat) : Int) := by
  rw [Int.toNat_natCast, show min c IntKind.i64.bits = c from Nat.min_eq_left (by show c ≤ 64; omega), show (2 : Int) ^ c = ((2 ^ c : Nat) : Int) by rw [Int.natCast_pow]; rfl]
  exact (Int.ofNat_fdiv _ _).symm
theorem and1_bit (m c : Nat) (hm : m < 2 ^ 62) : IntKind.i64.wrap ((BitVec.ofInt IntKind.i64.bits ((m / 2 ^ c : Nat) : Int) &&& BitVec.ofInt IntKind.i64.bits 1).toNat : Int) = ((m.testBit c).toNat : Int) := by
  have := and_i64 (a := m / 2 ^ c) (b := 1) (Nat.lt_of_le_of_lt (Nat.div_le_self _ _) (by omega))
  rw [show ((1 : Nat) : Int) = 1 from rfl] at this
  rw [this, Nat.and_one_is_mod, Nat.testBit_eq_decide_div_mod_eq]
  rcases Nat.mod_two_eq_zero_or_one (m / 2 ^ c) with h | h <;> simp [h]
set_option maxHeartbeats 4000000 in
set_option maxRecDepth 100000 in
theorem concatI_ret (ms u v : List Nat) (hl : ms.length ≤ 8) (hA : Alpha ms) (hok : alphaOk ms.length (natI ms) = true) (hu : Wd ms u) (hv : Wd ms v) (hx : u.length ≤ 24) (hy : v.length ≤ 24) (hs : ¬ 24 < (u ++ v).length) : Ret Tryd.prog G0 29 [⟨.ro, .agg [i64 ms.length, ints (natI ms)]⟩, ⟨.ro, .one (ints (natI u))⟩, ⟨.ro, .one (ints (natI v))⟩] ⟨.tup [(false, [ints (natI (nform ms (u ++ v)))]), (false, [i64 0])], []⟩ := by
  have hml := natI_length ms
  have hul := natI_length u
  have hvl := natI_length v
  have hcw := checkWords_ret ms.length (natI ms) [natI u, natI v] (by omega) (by simp) (by simp; omega)
  have hti := ties_ret ms.length (natI ms)
  rw [hok, wcode_t] at hcw
  simp only [List.all_cons, List.all_nil, wordN_of hu hx, wordN_of hv hy, Bool.and_true] at hcw
  have hcc := concat_ret [natI u, natI v] (by simp) (by simp [tot]; omega)
  rw [show [natI u, natI v].flatten = natI (u ++ v) by simp [natI]] at hcc
  have hli := limited_ret ms (u ++ v) hA (by omega) (hu.append hv) (by rw [List.length_append]; omega)
  rw [if_neg hs, if_neg hs] at hli
  unfold rowsI at hcw hcc
  (refine ret_of_den (E := en 26 [] (fun _ => []) (fun _ => [])) tt_ok mixed Tryd.func29 rfl rfl rfl rfl ?_; refine ⟨by simp, ?_⟩)
  repeat' (first | ((first | refine opt_some (getC_rows rfl rfl (by omega)) ?_ | refine opt_some (by dsimp only; exact getC_lent rfl rfl (by omega)) ?_ | refine opt_some rfl ?_ | refine ⟨_, (by simp only [nf, nl, nm, en, ints, setC_setC, Nat.reduceAdd, Nat.reduceMul]; exact rfl), ?_⟩ | refine ⟨_, pickT rfl, ?_⟩ | refine ⟨_, rfl, ?_⟩ | refine iteP_true rfl ?_ | refine iteP_false rfl ?_ | refine iteP_true ‹_› ?_ | refine iteP_false ‹_› ?_ | refine andK ?_ | refine andA ?_ | refine andT ?_); conv => whnf) | (refine iteP_intro (fun hb => ?_) (fun hb => ?_) <;> (conv => whnf)))
  (refine ⟨_, hcw, ?_⟩; conv => whnf)
  repeat' (first | ((first | refine opt_some (getC_rows rfl rfl (by omega)) ?_ | refine opt_some (by dsimp only; exact getC_lent rfl rfl (by omega)) ?_ | refine opt_some rfl ?_ | refine ⟨_, (by simp only [nf, nl, nm, en, ints, setC_setC, Nat.reduceAdd, Nat.reduceMul]; exact rfl), ?_⟩ | refine ⟨_, pickT rfl, ?_⟩ | refine ⟨_, rfl, ?_⟩ | refine iteP_true rfl ?_ | refine iteP_false rfl ?_ | refine iteP_true ‹_› ?_ | refine iteP_false ‹_› ?_ | refine andK ?_ | refine andA ?_ | refine andT ?_); conv => whnf) | (refine iteP_intro (fun hb => ?_) (fun hb => ?_) <;> (conv => whnf)))
  (refine ⟨_, hti, ?_⟩; conv => whnf)
  repeat' (first | ((first | refine opt_some (getC_rows rfl rfl (by omega)) ?_ | refine opt_some (by dsimp only; exact getC_lent rfl rfl (by omega)) ?_ | refine opt_some rfl ?_ | refine ⟨_, (by simp only [nf, nl, nm, en, ints, setC_setC, Nat.reduceAdd, Nat.reduceMul]; exact rfl), ?_⟩ | refine ⟨_, pickT rfl, ?_⟩ | refine ⟨_, rfl, ?_⟩ | refine iteP_true rfl ?_ | refine iteP_false rfl ?_ | refine iteP_true ‹_› ?_ | refine iteP_false ‹_› ?_ | refine andK ?_ | refine andA ?_ | refine andT ?_); conv => whnf) | (refine iteP_intro (fun hb => ?_) (fun hb => ?_) <;> (conv => whnf)))
  (refine ⟨_, hcc, ?_⟩; conv => whnf)
  repeat' (first | ((first | refine opt_some (getC_rows rfl rfl (by omega)) ?_ | refine opt_some (by dsimp only; exact getC_lent rfl rfl (by omega)) ?_ | refine opt_some rfl ?_ | refine ⟨_, (by simp only [nf, nl, nm, en, ints, setC_setC, Nat.reduceAdd, Nat.reduceMul]; exact rfl), ?_⟩ | refine ⟨_, pickT rfl, ?_⟩ | refine ⟨_, rfl, ?_⟩ | refine iteP_true rfl ?_ | refine iteP_false rfl ?_ | refine iteP_true ‹_› ?_ | refine iteP_false ‹_› ?_ | refine andK ?_ | refine andA ?_ | refine andT ?_); conv => whnf) | (refine iteP_intro (fun hb => ?_) (fun hb => ?_) <;> (conv => whnf)))
  (refine ⟨_, hli, ?_⟩; conv => whnf)
  repeat' (first | ((first | refine opt_some (getC_rows rfl rfl (by omega)) ?_ | refine opt_some (by dsimp only; exact getC_lent rfl rfl (by omega)) ?_ | refine opt_some rfl ?_ | refine ⟨_, (by simp only [nf, nl, nm, en, ints, setC_setC, Nat.reduceAdd, Nat.reduceMul]; exact rfl), ?_⟩ | refine ⟨_, pickT rfl, ?_⟩ | refine ⟨_, rfl, ?_⟩ | refine iteP_true rfl ?_ | refine iteP_false rfl ?_ | refine iteP_true ‹_› ?_ | refine iteP_false ‹_› ?_ | refine andK ?_ | refine andA ?_ | refine andT ?_); conv => whnf) | (refine iteP_intro (fun hb => ?_) (fun hb => ?_) <;> (conv => whnf)))
  rfl
end Go.Proofs.YtpopepcmfanegaaDoor
