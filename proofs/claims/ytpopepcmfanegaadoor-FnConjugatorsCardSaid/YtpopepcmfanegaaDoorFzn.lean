import Derived.Test.YtpopepcmfanegaaDoorFzm
set_option autoImplicit false
set_option linter.unusedSimpArgs false
set_option linter.unusedVariables false
namespace Go.Proofs.YtpopepcmfanegaaDoor
open Go.Den
theorem longJ {ds us vs : List Int} {x y z : Int} {T : Int} {i : Nat} {X : List SV} (h : X = [.one (i64 T), .one (.ptr [i64 0, nilS]), .one (.ptr [i64 8, .sl false 1 (ds.length + 1) (ds.map i64 ++ [i64 x])]), .one (.sl false 1 (us.length + 1) (us.map i64 ++ [i64 y])), .one (.sl false 1 (vs.length + 1) (vs.map i64 ++ [i64 z])), .one (i64 i)]) : X = [.one (i64 T), .one (.ptr [i64 0, nilS]), .one (.ptr [i64 8, ints (ds ++ [x])]), .one (ints (us ++ [y])), .one (ints (vs ++ [z])), .one (i64 i)] := by
  rw [h, ints_snoc, ints_snoc, ints_snoc]
theorem snoc_len {xs : List Int} {i : Nat} {x : Int} (h : xs.length = i) : (xs ++ [x]).length = i + 1 := by rw [List.length_append, List.length_singleton, h]
theorem longK {ds us vs : List Int} {x y z : Int} {T : Int} {i : Nat} {X : List SV} (hi : i < 8) (hd : ds.length = i) (hu : us.length = i) (hv : vs.length = i) (h : X = [.one (i64 T), .one (.ptr [i64 0, nilS]), .one (.ptr [i64 8, .sl false 1 (ds.length + 1) (ds.map i64 ++ [i64 x])]), .one (.sl false 1 (us.length + 1) (us.map i64 ++ [i64 y])), .one (.sl false 1 (vs.length + 1) (vs.map i64 ++ [i64 z])), .one (i64 (IntKind.i64.wrap ((i : Int) + 1)))]) : ∃ (j : Nat) (D : Cell) (us vs : List Int), j ≤ 8 ∧ ((j = 0 ∧ D = nilS) ∨ ∃ ds : List Int, D = ints ds ∧ ds.length = j ∧ 0 < j) ∧ us.length = j ∧ vs.length = j ∧ X = [.one (i64 T), .one (.ptr [i64 0, nilS]), .one (.ptr [i64 8, D]), .one (ints us), .one (ints vs), .one (i64 j)] ∧ 8 - (i + 1) = 8 - j := by
  refine ⟨i + 1, ints (ds ++ [x]), us ++ [y], vs ++ [z], hi, .inr ⟨ds ++ [x], rfl, snoc_len hd, Nat.succ_pos _⟩, snoc_len hu, snoc_len hv, ?_, rfl⟩
  rw [h, ints_snoc, ints_snoc, ints_snoc, wrap_succ (by omega)]
set_option maxHeartbeats 4000000 in
set_option maxRecDepth 100000 in
theorem long_ex (T : Nat) (hT : T ≤ 7) : ∃ r, (∃ ds us vs : List Int, r = ⟨.tup [(true, [i64 8, ints ds]), (false, [ints us]), (false, [ints vs])], []⟩ ∧ ds.length = 8 ∧ us.length = 8 ∧ vs.length = 8) ∧ Ret Tryd.prog G0 99 [⟨.ro, .one (i64 T)⟩] r := by
  (refine rete_of_den (E := en 75 [] (fun | 3 => [(0, 0), (2, 0), (5, 0), (6, 0), (7, 0), (8, 0)] | 14 => [(0, 0), (2, 0), (5, 0), (6, 0), (7, 0), (10, 0)] | _ => []) (fun _ => [])) tt_ok mixed Tryd.func99 rfl rfl rfl rfl ?_; refine ⟨by simp, ?_⟩)
  repeat' (first | ((first | refine opt_some (getC_rows rfl rfl (by omega)) ?_ | refine opt_some (by dsimp only; exact getC_lent rfl rfl (by omega)) ?_ | refine opt_some rfl ?_ | refine ⟨_, (by simp only [nf, nl, nm, en, ints, setC_setC, Nat.reduceAdd, Nat.reduceMul]; exact rfl), ?_⟩ | refine ⟨_, pickT rfl, ?_⟩ | refine ⟨_, rfl, ?_⟩ | refine iteP_true rfl ?_ | refine iteP_false rfl ?_ | refine iteP_true ‹_› ?_ | refine iteP_false ‹_› ?_ | refine andK ?_ | refine andA ?_ | refine andT ?_); conv => whnf) | (refine iteP_intro (fun hb => ?_) (fun hb => ?_) <;> (conv => whnf)))
  refine ⟨fun k X => ∃ (i : Nat) (D : Cell) (us vs : List Int), i ≤ 8 ∧ ((i = 0 ∧ D = nilS) ∨ ∃ ds : List Int, D = ints ds ∧ ds.length = i ∧ 0 < i) ∧ us.length = i ∧ vs.length = i ∧ X = [.one (i64 T), .one (.ptr [i64 0, nilS]), .one (.ptr [i64 8, D]), .one (ints us), .one (ints vs), .one (i64 i)] ∧ k = 8 - i, rfl, ⟨_, 0, nilS, [], [], by omega, .inl ⟨rfl, rfl⟩, rfl, rfl, rfl, rfl⟩, ?_⟩
  rintro k X ⟨i, D, us, vs, hi, hD, hul, hvl, rfl, rfl⟩
  have hw1 : IntKind.i64.wrap ((i : Int) + 1) = ((i + 1 : Nat) : Int) := wrap_succ (by omega)
  have hw2 : 0 < i → IntKind.i64.wrap ((i : Int) - 1) = ((i - 1 : Nat) : Int) := fun h => wrap_pred (by omega) (by omega)
  rcases hD with ⟨h0, rfl⟩ | ⟨ds, rfl, hdl, hi0⟩
  · subst h0
    have hz : (0 : Int) ≤ IntKind.i64.wrap ((0 : Nat) + 1 : Int) := by decide
    repeat (first | ((first | refine opt_some (getC_rows rfl rfl (by omega)) ?_ | refine opt_some (by dsimp only; exact getC_lent rfl rfl (by omega)) ?_ | refine opt_some rfl ?_ | refine ⟨_, (by simp only [nf, nl, nm, en, ints, setC_setC, Nat.reduceAdd, Nat.reduceMul]; exact rfl), ?_⟩ | refine ⟨_, pickT rfl, ?_⟩ | refine ⟨_, rfl, ?_⟩ | refine iteP_true rfl ?_ | refine iteP_false rfl ?_ | refine iteP_true ‹_› ?_ | refine iteP_false ‹_› ?_ | refine andK ?_ | refine andA ?_ | refine andT ?_); conv => whnf))
    exact ⟨8 - (0 + 1), by omega, longK (ds := []) (by omega) rfl hul hvl rfl⟩
  · have hw2 := hw2 hi0
    repeat (first | ((first | refine opt_some (getC_rows rfl rfl (by omega)) ?_ | refine opt_some (by dsimp only; exact getC_lent rfl rfl (by omega)) ?_ | refine opt_some rfl ?_ | refine ⟨_, (by simp only [nf, nl, nm, en, ints, setC_setC, Nat.reduceAdd, Nat.reduceMul]; exact rfl), ?_⟩ | refine ⟨_, pickT rfl, ?_⟩ | refine ⟨_, rfl, ?_⟩ | refine iteP_true rfl ?_ | refine iteP_false rfl ?_ | refine iteP_true ‹_› ?_ | refine iteP_false ‹_› ?_ | refine andK ?_ | refine andA ?_ | refine andT ?_); conv => whnf))
    refine iteP_intro (fun hb => ?_) (fun hb => ?_) <;> (conv => whnf)
    · have hi8 : i < 8 := by have := leT hb; omega
      have hgt : decide ((i : Int) > 0) = true := decide_eq_true (by omega)
      have hs1 : 0 ≤ IntKind.i64.wrap ((i : Int) + 1) := by rw [hw1]; omega
      have hs2 : 0 ≤ IntKind.i64.wrap ((i : Int) - 1) := by rw [hw2]; omega
      repeat (first | ((first | refine opt_some (getC_rows rfl rfl (by omega)) ?_ | refine opt_some (by dsimp only; exact getC_lent rfl rfl (by omega)) ?_ | refine opt_some rfl ?_ | refine ⟨_, (by simp only [nf, nl, nm, en, ints, setC_setC, Nat.reduceAdd, Nat.reduceMul]; exact rfl), ?_⟩ | refine ⟨_, pickT rfl, ?_⟩ | refine ⟨_, rfl, ?_⟩ | refine iteP_true rfl ?_ | refine iteP_false rfl ?_ | refine iteP_true ‹_› ?_ | refine iteP_false ‹_› ?_ | refine andK ?_ | refine andA ?_ | refine andT ?_); conv => whnf))
      refine iteP_intro (fun hb => ?_) (fun hb => ?_) <;> (conv => whnf)
      · repeat (first | ((first | refine opt_some (getC_rows rfl rfl (by omega)) ?_ | refine opt_some (by dsimp only; exact getC_lent rfl rfl (by omega)) ?_ | refine opt_some rfl ?_ | refine ⟨_, (by simp only [nf, nl, nm, en, ints, setC_setC, Nat.reduceAdd, Nat.reduceMul]; exact rfl), ?_⟩ | refine ⟨_, pickT rfl, ?_⟩ | refine ⟨_, rfl, ?_⟩ | refine iteP_true rfl ?_ | refine iteP_false rfl ?_ | refine iteP_true ‹_› ?_ | refine iteP_false ‹_› ?_ | refine andK ?_ | refine andA ?_ | refine andT ?_); conv => whnf))
        exact ⟨8 - (i + 1), by omega, longK hi8 hdl hul hvl rfl⟩
      · repeat (first | ((first | refine opt_some (getC_rows rfl rfl (by omega)) ?_ | refine opt_some (by dsimp only; exact getC_lent rfl rfl (by omega)) ?_ | refine opt_some rfl ?_ | refine ⟨_, (by simp only [nf, nl, nm, en, ints, setC_setC, Nat.reduceAdd, Nat.reduceMul]; exact rfl), ?_⟩ | refine ⟨_, pickT rfl, ?_⟩ | refine ⟨_, rfl, ?_⟩ | refine iteP_true rfl ?_ | refine iteP_false rfl ?_ | refine iteP_true ‹_› ?_ | refine iteP_false ‹_› ?_ | refine andK ?_ | refine andA ?_ | refine andT ?_); conv => whnf))
        exact ⟨8 - (i + 1), by omega, longK hi8 hdl hul hvl rfl⟩
    · have hi8 : i = 8 := by have := leF hb; omega
      subst hi8
      repeat (first | ((first | refine opt_some (getC_rows rfl rfl (by omega)) ?_ | refine opt_some (by dsimp only; exact getC_lent rfl rfl (by omega)) ?_ | refine opt_some rfl ?_ | refine ⟨_, (by simp only [nf, nl, nm, en, ints, setC_setC, Nat.reduceAdd, Nat.reduceMul]; exact rfl), ?_⟩ | refine ⟨_, pickT rfl, ?_⟩ | refine ⟨_, rfl, ?_⟩ | refine iteP_true rfl ?_ | refine iteP_false rfl ?_ | refine iteP_true ‹_› ?_ | refine iteP_false ‹_› ?_ | refine andK ?_ | refine andA ?_ | refine andT ?_); conv => whnf))
      refine ⟨fun k X => ∃ (j : Nat) (vs : List Int), j ≤ T ∧ vs.length = 8 ∧ X = [.one (i64 T), .one (.ptr [i64 0, nilS]), .one (.ptr [i64 8, ints ds]), .one (ints us), .one (ints vs), .one (i64 j)] ∧ k = T - j, rfl, ⟨_, 0, vs, by omega, hvl, rfl, rfl⟩, ?_⟩
      rintro k X ⟨j, vs, hj, hvl, rfl, rfl⟩
      have hwj : IntKind.i64.wrap ((j : Int) + 1) = ((j + 1 : Nat) : Int) := wrap_succ (by omega)
      repeat (first | ((first | refine opt_some (getC_rows rfl rfl (by omega)) ?_ | refine opt_some (by dsimp only; exact getC_lent rfl rfl (by omega)) ?_ | refine opt_some rfl ?_ | refine ⟨_, (by simp only [nf, nl, nm, en, ints, setC_setC, Nat.reduceAdd, Nat.reduceMul]; exact rfl), ?_⟩ | refine ⟨_, pickT rfl, ?_⟩ | refine ⟨_, rfl, ?_⟩ | refine iteP_true rfl ?_ | refine iteP_false rfl ?_ | refine iteP_true ‹_› ?_ | refine iteP_false ‹_› ?_ | refine andK ?_ | refine andA ?_ | refine andT ?_); conv => whnf))
      refine iteP_intro (fun hb => ?_) (fun hb => ?_) <;> (conv => whnf)
      · have hj' : j < T := by have := leT hb; omega
        have hv1 : j < vs.length := by omega
        have hv2 : j + 1 < vs.length := by omega
        have hl1 : vs.length = (vs.set j vs[j + 1]).length := by rw [List.length_set]
        have hl2 : (vs.set j vs[j + 1]).length = ((vs.set j vs[j + 1]).set (j + 1) vs[j]).length := by rw [List.length_set, List.length_set, List.length_set]
        repeat (first | ((first | refine opt_some (getC_rows rfl rfl (by omega)) ?_ | refine opt_some (by dsimp only; exact getC_lent rfl rfl (by omega)) ?_ | refine opt_some rfl ?_ | refine ⟨_, (by simp only [nf, nl, nm, en, ints, setC_setC, Nat.reduceAdd, Nat.reduceMul, hwj]; exact rfl), ?_⟩ | refine ⟨_, pickT rfl, ?_⟩ | refine ⟨_, rfl, ?_⟩ | refine iteP_true rfl ?_ | refine iteP_false rfl ?_ | refine iteP_true ‹_› ?_ | refine iteP_false ‹_› ?_ | refine andK ?_ | refine andA ?_ | refine andT ?_); conv => whnf))
        refine ⟨⟨by rw [Int.toNat_natCast, List.length_map, hvl]; show j * 1 + 1 ≤ _; omega, plain_i64 _⟩, ?_⟩
        conv => whnf
        refine ⟨_, by simp only [nf, nl, nm, en, ints, setC_setC, Nat.reduceAdd, Nat.reduceMul]; rw [splice_int rfl hv1, hl1], ?_⟩
        conv => whnf
        repeat (first | ((first | refine opt_some (getC_rows rfl rfl (by omega)) ?_ | refine opt_some (by dsimp only; exact getC_lent rfl rfl (by omega)) ?_ | refine opt_some rfl ?_ | refine ⟨_, (by simp only [nf, nl, nm, en, ints, setC_setC, Nat.reduceAdd, Nat.reduceMul, hwj]; exact rfl), ?_⟩ | refine ⟨_, pickT rfl, ?_⟩ | refine ⟨_, rfl, ?_⟩ | refine iteP_true rfl ?_ | refine iteP_false rfl ?_ | refine iteP_true ‹_› ?_ | refine iteP_false ‹_› ?_ | refine andK ?_ | refine andA ?_ | refine andT ?_); conv => whnf))
        refine ⟨⟨by rw [Int.toNat_natCast, List.length_map, List.length_set, hvl]; show (j + 1) * 1 + 1 ≤ _; omega, plain_i64 _⟩, ?_⟩
        conv => whnf
        refine ⟨_, by simp only [nf, nl, nm, en, ints, setC_setC, Nat.reduceAdd, Nat.reduceMul]; rw [splice_int rfl (by rw [List.length_set]; exact hv2), hl2], ?_⟩
        conv => whnf
        repeat (first | ((first | refine opt_some (getC_rows rfl rfl (by omega)) ?_ | refine opt_some (by dsimp only; exact getC_lent rfl rfl (by omega)) ?_ | refine opt_some rfl ?_ | refine ⟨_, (by simp only [nf, nl, nm, en, ints, setC_setC, Nat.reduceAdd, Nat.reduceMul]; exact rfl), ?_⟩ | refine ⟨_, pickT rfl, ?_⟩ | refine ⟨_, rfl, ?_⟩ | refine iteP_true rfl ?_ | refine iteP_false rfl ?_ | refine iteP_true ‹_› ?_ | refine iteP_false ‹_› ?_ | refine andK ?_ | refine andA ?_ | refine andT ?_); conv => whnf))
        refine ⟨_, ?_, j + 1, (vs.set j vs[j + 1]).set (j + 1) vs[j], hj', by rw [List.length_set, List.length_set]; exact hvl, ?_, rfl⟩
        · omega
        · rw [hwj]
          rfl
      · repeat' (first | ((first | refine opt_some (getC_rows rfl rfl (by omega)) ?_ | refine opt_some (by dsimp only; exact getC_lent rfl rfl (by omega)) ?_ | refine opt_some rfl ?_ | refine ⟨_, (by simp only [nf, nl, nm, en, ints, setC_setC, Nat.reduceAdd, Nat.reduceMul]; exact rfl), ?_⟩ | refine ⟨_, pickT rfl, ?_⟩ | refine ⟨_, rfl, ?_⟩ | refine iteP_true rfl ?_ | refine iteP_false rfl ?_ | refine iteP_true ‹_› ?_ | refine iteP_false ‹_› ?_ | refine andK ?_ | refine andA ?_ | refine andT ?_); conv => whnf) | (refine iteP_intro (fun hb => ?_) (fun hb => ?_) <;> (conv => whnf)))
        exact ⟨ds, us, vs, rfl, hdl, hul, hvl⟩
end Go.Proofs.YtpopepcmfanegaaDoor
