import Derived.Test.YtihdeagknggeiaaDoorFzb
set_option autoImplicit false
set_option linter.unusedSimpArgs false
set_option linter.unusedVariables false
namespace Go.Proofs.YtihdeagknggeiaaDoor
open Go.Den
set_option maxHeartbeats 16000000 in
set_option maxRecDepth 100000 in
theorem poly_ret (ms : List Nat) (hA : Alpha ms) (hl : ms.length ≤ 8) : Ret Tryd.prog G0 73 [⟨.ro, .agg [i64 ms.length, ints (natI ms)]⟩] ⟨.one (ints (polyL (stepL (dep ms) ms.length))), []⟩ := by
  have hS := stepsOf_ret ms hA hl
  have hp8 : 2 ^ ms.length ≤ 2 ^ 8 := Nat.pow_le_pow_right (by decide) hl
  have hL0 : ∃ L, stepL (dep ms) ms.length = L ∧ L.length ≤ 256 ∧ ∀ m ∈ L, m < 256 := ⟨_, rfl, Nat.le_trans (stepL_len _ _) hp8, fun m hm => Nat.lt_of_lt_of_le (stepL_lt hm) hp8⟩
  obtain ⟨L, hLe, hLl, hLm⟩ := hL0
  rw [hLe] at hS ⊢
  have hLn := natI_length L
  (refine ret_of_den (E := en 36 [] (fun | 3 => [(3, 0), (8, 0), (9, 0), (10, 0)] | 5 => [(3, 0), (5, 0), (8, 0), (9, 0), (10, 0)] | _ => []) (fun _ => [])) tt_ok mixed Tryd.func73 rfl rfl rfl rfl ?_; refine ⟨by simp, ?_⟩)
  repeat' (first | ((first | refine opt_some (getC_rows rfl rfl (by omega)) ?_ | refine opt_some (by dsimp only; exact getC_lent rfl rfl (by omega)) ?_ | refine opt_some rfl ?_ | refine ⟨_, (by simp only [nf, nl, nm, en, ints, setC_setC, Nat.reduceAdd, Nat.reduceMul]; exact rfl), ?_⟩ | refine ⟨_, pickT rfl, ?_⟩ | refine ⟨_, rfl, ?_⟩ | refine iteP_true rfl ?_ | refine iteP_false rfl ?_ | refine iteP_true ‹_› ?_ | refine iteP_false ‹_› ?_ | refine andK ?_ | refine andA ?_ | refine andT ?_); conv => whnf) | (refine iteP_intro (fun hb => ?_) (fun hb => ?_) <;> (conv => whnf)))
  (refine ⟨_, hS, ?_⟩; conv => whnf)
  repeat' (first | ((first | refine opt_some (getC_rows rfl rfl (by omega)) ?_ | refine opt_some (by dsimp only; exact getC_lent rfl rfl (by omega)) ?_ | refine opt_some rfl ?_ | refine ⟨_, (by simp only [nf, nl, nm, en, ints, setC_setC, Nat.reduceAdd, Nat.reduceMul]; exact rfl), ?_⟩ | refine ⟨_, pickT rfl, ?_⟩ | refine ⟨_, rfl, ?_⟩ | refine iteP_true rfl ?_ | refine iteP_false rfl ?_ | refine iteP_true ‹_› ?_ | refine iteP_false ‹_› ?_ | refine andK ?_ | refine andA ?_ | refine andT ?_); conv => whnf) | (refine iteP_intro (fun hb => ?_) (fun hb => ?_) <;> (conv => whnf)))
  refine ⟨fun k vs => ∃ i : Nat, i ≤ L.length ∧ vs = [.one (ints (polyL (L.take i))), .one (ints (natI L)), .one (i64 L.length), .one (i64 i)] ∧ k = L.length - i, rfl, ⟨_, 0, by omega, by rw [← hLn]; rfl, rfl⟩, ?_⟩
  rintro k vs ⟨i, hi, rfl, rfl⟩
  repeat (first | ((first | refine opt_some (getC_rows rfl rfl (by omega)) ?_ | refine opt_some (by dsimp only; exact getC_lent rfl rfl (by omega)) ?_ | refine opt_some rfl ?_ | refine ⟨_, (by simp only [nf, nl, nm, en, ints, setC_setC, Nat.reduceAdd, Nat.reduceMul]; exact rfl), ?_⟩ | refine ⟨_, pickT rfl, ?_⟩ | refine ⟨_, rfl, ?_⟩ | refine iteP_true rfl ?_ | refine iteP_false rfl ?_ | refine iteP_true ‹_› ?_ | refine iteP_false ‹_› ?_ | refine andK ?_ | refine andA ?_ | refine andT ?_); conv => whnf))
  refine iteP_intro (fun hb => ?_) (fun hb => ?_) <;> (conv => whnf)
  · have hi' : i < L.length := by have := leT hb; omega
    have hgi : (natI L)[i]'(by omega) = ((L[i] : Nat) : Int) := natI_get _
    have hs0 : ∃ s, L[i] = s := ⟨_, rfl⟩
    obtain ⟨s, hs⟩ := hs0
    have hsl : s < 256 := by rw [← hs]; exact hLm _ (List.getElem_mem hi')
    have hts : L.take (i + 1) = L.take i ++ [s] := by rw [List.take_add_one, List.getElem?_eq_getElem hi', hs]; rfl
    have hmx := mxP_snoc (L.take i) s
    have hp9 := popR_le 8 s
    have hm9 : mxP (L.take i) ≤ 9 := mxP_le _ 0 (fun m hm => by have := popR_le 8 m; omega) (by omega)
    rw [hs] at hgi
    have hSz := size_ret s hsl
    repeat (first | ((first | refine opt_some (getC_rows rfl rfl (by omega)) ?_ | refine opt_some (by dsimp only; exact getC_lent rfl rfl (by omega)) ?_ | refine opt_some rfl ?_ | refine ⟨_, (by simp only [nf, nl, nm, en, ints, setC_setC, Nat.reduceAdd, Nat.reduceMul, hgi]; exact rfl), ?_⟩ | refine ⟨_, pickT rfl, ?_⟩ | refine ⟨_, rfl, ?_⟩ | refine iteP_true rfl ?_ | refine iteP_false rfl ?_ | refine iteP_true ‹_› ?_ | refine iteP_false ‹_› ?_ | refine andK ?_ | refine andA ?_ | refine andT ?_); conv => whnf))
    refine ⟨fun k vs => ∃ n : Nat, mxP (L.take i) ≤ n ∧ n ≤ max (mxP (L.take i)) (popR 8 s + 1) ∧ vs = [.one (ints (polyX (L.take i) n)), .one (i64 s), .one (ints (natI L)), .one (i64 L.length), .one (i64 i)] ∧ k = 9 - n, rfl, ⟨_, mxP (L.take i), Nat.le_refl _, Nat.le_max_left _ _, rfl, rfl⟩, ?_⟩
    rintro k vs ⟨n, hn1, hn2, rfl, rfl⟩
    have hpl := polyX_len (L.take i) n
    have hLe2 := length_ret (polyX (L.take i) n)
    rw [hpl] at hLe2
    repeat (first | ((first | refine opt_some (getC_rows rfl rfl (by omega)) ?_ | refine opt_some (by dsimp only; exact getC_lent rfl rfl (by omega)) ?_ | refine opt_some rfl ?_ | refine ⟨_, (by simp only [nf, nl, nm, en, ints, setC_setC, Nat.reduceAdd, Nat.reduceMul]; exact rfl), ?_⟩ | refine ⟨_, pickT rfl, ?_⟩ | refine ⟨_, rfl, ?_⟩ | refine iteP_true rfl ?_ | refine iteP_false rfl ?_ | refine iteP_true ‹_› ?_ | refine iteP_false ‹_› ?_ | refine andK ?_ | refine andA ?_ | refine andT ?_); conv => whnf))
    (refine ⟨_, hLe2, ?_⟩; conv => whnf)
    repeat (first | ((first | refine opt_some (getC_rows rfl rfl (by omega)) ?_ | refine opt_some (by dsimp only; exact getC_lent rfl rfl (by omega)) ?_ | refine opt_some rfl ?_ | refine ⟨_, (by simp only [nf, nl, nm, en, ints, setC_setC, Nat.reduceAdd, Nat.reduceMul]; exact rfl), ?_⟩ | refine ⟨_, pickT rfl, ?_⟩ | refine ⟨_, rfl, ?_⟩ | refine iteP_true rfl ?_ | refine iteP_false rfl ?_ | refine iteP_true ‹_› ?_ | refine iteP_false ‹_› ?_ | refine andK ?_ | refine andA ?_ | refine andT ?_); conv => whnf))
    (refine ⟨_, hSz, ?_⟩; conv => whnf)
    repeat (first | ((first | refine opt_some (getC_rows rfl rfl (by omega)) ?_ | refine opt_some (by dsimp only; exact getC_lent rfl rfl (by omega)) ?_ | refine opt_some rfl ?_ | refine ⟨_, (by simp only [nf, nl, nm, en, ints, setC_setC, Nat.reduceAdd, Nat.reduceMul]; exact rfl), ?_⟩ | refine ⟨_, pickT rfl, ?_⟩ | refine ⟨_, rfl, ?_⟩ | refine iteP_true rfl ?_ | refine iteP_false rfl ?_ | refine iteP_true ‹_› ?_ | refine iteP_false ‹_› ?_ | refine andK ?_ | refine andA ?_ | refine andT ?_); conv => whnf))
    refine iteP_intro (fun hb => ?_) (fun hb => ?_) <;> (conv => whnf)
    · have hnp : n ≤ popR 8 s := by have := leT hb; omega
      repeat (first | ((first | refine opt_some (getC_rows rfl rfl (by omega)) ?_ | refine opt_some (by dsimp only; exact getC_lent rfl rfl (by omega)) ?_ | refine opt_some rfl ?_ | refine ⟨_, (by simp only [nf, nl, nm, en, ints, setC_setC, Nat.reduceAdd, Nat.reduceMul]; exact rfl), ?_⟩ | refine ⟨_, pickT rfl, ?_⟩ | refine ⟨_, rfl, ?_⟩ | refine iteP_true rfl ?_ | refine iteP_false rfl ?_ | refine iteP_true ‹_› ?_ | refine iteP_false ‹_› ?_ | refine andK ?_ | refine andA ?_ | refine andT ?_); conv => whnf))
      refine ⟨_, ?_, n + 1, by omega, by omega, ?_, rfl⟩
      · omega
      · rw [← polyX_more hn1, ints_snoc]
        rfl
    · have hnp : popR 8 s < n := by have := leF hb; omega
      have hne : n = max (mxP (L.take i)) (popR 8 s + 1) := by omega
      have hgp : (polyX (L.take i) n)[popR 8 s]'(by omega) = sgn (popR 8 s) * (cntK (L.take i) (popR 8 s) : Int) := by simp [polyX]
      have hck := cntK_le (L.take i) (popR 8 s)
      have htl := List.length_take_le i L
      have hsg := sgn_mod (popR 8 s)
      have hcb : -256 ≤ sgn (popR 8 s) * (cntK (L.take i) (popR 8 s) : Int) ∧ sgn (popR 8 s) * (cntK (L.take i) (popR 8 s) : Int) ≤ 256 := by
        rcases Nat.mod_two_eq_zero_or_one (popR 8 s) with h | h
        · rw [hsg, h]
          constructor <;> simp <;> omega
        · rw [hsg, h]
          constructor <;> simp <;> omega
      have e1 : IntKind.i64.wrap (2 * ((popR 8 s : Nat) : Int).tmod 2) = 2 * ((popR 8 s % 2 : Nat) : Int) := by
        have : ((popR 8 s : Nat) : Int).tmod 2 = ((popR 8 s % 2 : Nat) : Int) := by
          rw [Int.tmod_eq_emod_of_nonneg (by omega)]
          omega
        rw [this, wrap_i64 (by omega) (by omega)]
      have e2 : IntKind.i64.wrap (1 - 2 * ((popR 8 s % 2 : Nat) : Int)) = sgn (popR 8 s) := by rw [← hsg, wrap_i64 (by omega) (by omega)]
      have e3 : IntKind.i64.wrap (sgn (popR 8 s) * (cntK (L.take i) (popR 8 s) : Int) + sgn (popR 8 s)) = sgn (popR 8 s) * (cntK (L.take i) (popR 8 s) : Int) + sgn (popR 8 s) := wrap_i64 (by omega) (by omega)
      have hm1 : ((polyX (L.take i) n).map i64).length = (polyX (L.take i) n).length := List.length_map _
      have hsp : splice ((polyX (L.take i) n).map i64) (((popR 8 s : Nat) : Int).toNat * 1) [Cell.c (.int .i64 (sgn (popR 8 s) * (cntK (L.take i) (popR 8 s) : Int) + sgn (popR 8 s)))] = (polyX (L.take (i + 1)) n).map i64 := by
        rw [hts, ← polyX_set hnp]
        exact splice_at rfl (by omega)
      repeat (first | ((first | refine opt_some (getC_rows rfl rfl (by omega)) ?_ | refine opt_some (by dsimp only; exact getC_lent rfl rfl (by omega)) ?_ | refine opt_some rfl ?_ | refine ⟨_, (by simp only [nf, nl, nm, en, ints, setC_setC, Nat.reduceAdd, Nat.reduceMul, hgp]; exact rfl), ?_⟩ | refine ⟨_, pickT rfl, ?_⟩ | refine ⟨_, rfl, ?_⟩ | refine iteP_true rfl ?_ | refine iteP_false rfl ?_ | refine iteP_true ‹_› ?_ | refine iteP_false ‹_› ?_ | refine andK ?_ | refine andA ?_ | refine andT ?_); conv => whnf))
      (refine ⟨_, hSz, ?_⟩; conv => whnf)
      repeat (first | ((first | refine opt_some (getC_rows rfl rfl (by omega)) ?_ | refine opt_some (by dsimp only; exact getC_lent rfl rfl (by omega)) ?_ | refine opt_some rfl ?_ | refine ⟨_, (by simp only [nf, nl, nm, en, ints, setC_setC, Nat.reduceAdd, Nat.reduceMul, hgp]; exact rfl), ?_⟩ | refine ⟨_, pickT rfl, ?_⟩ | refine ⟨_, rfl, ?_⟩ | refine iteP_true rfl ?_ | refine iteP_false rfl ?_ | refine iteP_true ‹_› ?_ | refine iteP_false ‹_› ?_ | refine andK ?_ | refine andA ?_ | refine andT ?_); conv => whnf))
      (refine ⟨_, hSz, ?_⟩; conv => whnf)
      repeat (first | ((first | refine opt_some (getC_rows rfl rfl (by omega)) ?_ | refine opt_some (by dsimp only; exact getC_lent rfl rfl (by omega)) ?_ | refine opt_some rfl ?_ | refine ⟨_, (by simp only [nf, nl, nm, en, ints, setC_setC, Nat.reduceAdd, Nat.reduceMul, hgp, e1, e2, e3]; exact rfl), ?_⟩ | refine ⟨_, pickT rfl, ?_⟩ | refine ⟨_, rfl, ?_⟩ | refine iteP_true rfl ?_ | refine iteP_false rfl ?_ | refine iteP_true ‹_› ?_ | refine iteP_false ‹_› ?_ | refine andK ?_ | refine andA ?_ | refine andT ?_); conv => whnf))
      refine ⟨⟨by dsimp only; omega, plain_i64 _⟩, ?_⟩
      conv => whnf
      repeat (first | ((first | refine opt_some (getC_rows rfl rfl (by omega)) ?_ | refine opt_some (by dsimp only; exact getC_lent rfl rfl (by omega)) ?_ | refine opt_some rfl ?_ | refine ⟨_, (by simp only [nf, nl, nm, en, ints, setC_setC, Nat.reduceAdd, Nat.reduceMul, hsp]; exact rfl), ?_⟩ | refine ⟨_, pickT rfl, ?_⟩ | refine ⟨_, rfl, ?_⟩ | refine iteP_true rfl ?_ | refine iteP_false rfl ?_ | refine iteP_true ‹_› ?_ | refine iteP_false ‹_› ?_ | refine andK ?_ | refine andA ?_ | refine andT ?_); conv => whnf))
      refine ⟨_, ?_, i + 1, hi', ?_, rfl⟩
      · omega
      · have hfin : Cell.sl false 1 (polyX (L.take i) n).length ((polyX (L.take (i + 1)) n).map i64) = ints (polyL (L.take (i + 1))) := by
          unfold polyL
          rw [hpl, hts, hmx, ← hne]
          show _ = Cell.sl false 1 (polyX (L.take i ++ [s]) n).length _
          rw [polyX_len]
        rw [wrap_succ (by omega), ← hfin]
        rfl
  · have hie : i = L.length := by have := leF hb; omega
    rw [hie, List.take_length]
    repeat' (first | ((first | refine opt_some (getC_rows rfl rfl (by omega)) ?_ | refine opt_some (by dsimp only; exact getC_lent rfl rfl (by omega)) ?_ | refine opt_some rfl ?_ | refine ⟨_, (by simp only [nf, nl, nm, en, ints, setC_setC, Nat.reduceAdd, Nat.reduceMul]; exact rfl), ?_⟩ | refine ⟨_, pickT rfl, ?_⟩ | refine ⟨_, rfl, ?_⟩ | refine iteP_true rfl ?_ | refine iteP_false rfl ?_ | refine iteP_true ‹_› ?_ | refine iteP_false ‹_› ?_ | refine andK ?_ | refine andA ?_ | refine andT ?_); conv => whnf) | (refine iteP_intro (fun hb => ?_) (fun hb => ?_) <;> (conv => whnf)))
    rfl
end Go.Proofs.YtihdeagknggeiaaDoor
