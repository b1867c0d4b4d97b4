import Derived.Test.YtpopepcmfanegaaDoorFzn
set_option autoImplicit false
set_option linter.unusedSimpArgs false
set_option linter.unusedVariables false
namespace Go.Proofs.YtpopepcmfanegaaDoor
open Go.Den
set_option maxHeartbeats 4000000 in
set_option maxRecDepth 100000 in
theorem drawConj_ex (bs : List Int) (hs : Src bs) : ∃ r, (∃ (n : Int) (ds xs ys : List Int) (D : Cell), r = ⟨.tup [(true, [i64 n, D]), (false, [ints xs]), (false, [ints ys])], []⟩ ∧ (D = ints ds ∨ D = .shd (ints ds)) ∧ ds.length ≤ 9 ∧ xs.length ≤ 64 ∧ ys.length ≤ 64) ∧ Ret Tryd.prog G0 42 [⟨.ro, .one (byC bs)⟩] r := by
  obtain ⟨r0, ⟨n, ds, xs, ys, rfl, h1, h2, h3⟩, hr0⟩ := turned_ex bs hs
  have hlg := fun T hT => long_ex T hT
  have hbl := hs.len
  have hok := hs.ok
  unfold byC at *
  (refine rete_of_den (E := en 36 [] (fun _ => []) (fun _ => [])) tt_ok mixed Tryd.func42 rfl rfl rfl rfl ?_; refine ⟨by simp, ?_⟩)
  repeat' (first | ((first | refine opt_some (getC_rows rfl rfl (by omega)) ?_ | refine opt_some (by dsimp only; exact getC_lent rfl rfl (by omega)) ?_ | refine opt_some rfl ?_ | refine ⟨_, (by simp only [nf, nl, nm, en, ints, setC_setC, Nat.reduceAdd, Nat.reduceMul]; exact rfl), ?_⟩ | refine ⟨_, pickT rfl, ?_⟩ | refine ⟨_, rfl, ?_⟩ | refine iteP_true rfl ?_ | refine iteP_false rfl ?_ | refine iteP_true ‹_› ?_ | refine iteP_false ‹_› ?_ | refine andK ?_ | refine andA ?_ | refine andT ?_); conv => whnf) | (refine iteP_intro (fun hb => ?_) (fun hb => ?_) <;> (conv => whnf)))
  · rename_i hpos
    have hp : 0 < bs.length := by have := leT hpos; omega
    have hb0 := hok bs[0] (List.getElem_mem hp)
    obtain ⟨T, hT⟩ : ∃ T : Nat, bs[0].tdiv 32 = T := ⟨(bs[0].tdiv 32).toNat, by
      have := Int.tdiv_nonneg hb0.1 (show (0 : Int) ≤ 32 by omega)
      omega⟩
    have hT7 : T ≤ 7 := by
      have h1 : bs[0].tdiv 32 = bs[0] / 32 := Int.tdiv_eq_ediv_of_nonneg hb0.1
      omega
    obtain ⟨r9, ⟨d9, u9, v9, rfl, g1, g2, g3⟩, hr9⟩ := long_ex T hT7
    refine ⟨⟨by omega, by omega⟩, ?_⟩
    conv => whnf
    have hwT : IntKind.i64.wrap (T : Int) = T := i64_small (by omega)
    have hu8 : IntKind.u8.wrap (T : Int) = T := by
      unfold IntKind.wrap
      simp [IntKind.signed, IntKind.bits]
      omega
    have hval : IntKind.i64.wrap (IntKind.u8.wrap (bs[0].tdiv 32)) = T := by rw [hT, hu8, hwT]
    rw [← hval] at hr9
    repeat (first | ((first | refine opt_some (getC_rows rfl rfl (by omega)) ?_ | refine opt_some (by dsimp only; exact getC_lent rfl rfl (by omega)) ?_ | refine opt_some rfl ?_ | refine ⟨_, (by simp only [nf, nl, nm, en, ints, setC_setC, Nat.reduceAdd, Nat.reduceMul]; exact rfl), ?_⟩ | refine ⟨_, pickT rfl, ?_⟩ | refine ⟨_, rfl, ?_⟩ | refine iteP_true rfl ?_ | refine iteP_false rfl ?_ | refine iteP_true ‹_› ?_ | refine iteP_false ‹_› ?_ | refine andK ?_ | refine andA ?_ | refine andT ?_); conv => whnf))
    (refine ⟨_, hr9, ?_⟩; conv => whnf)
    repeat' (first | ((first | refine opt_some (getC_rows rfl rfl (by omega)) ?_ | refine opt_some (by dsimp only; exact getC_lent rfl rfl (by omega)) ?_ | refine opt_some rfl ?_ | refine ⟨_, (by simp only [nf, nl, nm, en, ints, setC_setC, Nat.reduceAdd, Nat.reduceMul]; exact rfl), ?_⟩ | refine ⟨_, pickT rfl, ?_⟩ | refine ⟨_, rfl, ?_⟩ | refine iteP_true rfl ?_ | refine iteP_false rfl ?_ | refine iteP_true ‹_› ?_ | refine iteP_false ‹_› ?_ | refine andK ?_ | refine andA ?_ | refine andT ?_); conv => whnf) | (refine iteP_intro (fun hb => ?_) (fun hb => ?_) <;> (conv => whnf)))
    exact ⟨8, d9, u9, v9, _, rfl, .inl rfl, by omega, by omega, by omega⟩
  · (refine ⟨_, hr0, ?_⟩; conv => whnf)
    repeat' (first | ((first | refine opt_some (getC_rows rfl rfl (by omega)) ?_ | refine opt_some (by dsimp only; exact getC_lent rfl rfl (by omega)) ?_ | refine opt_some rfl ?_ | refine ⟨_, (by simp only [nf, nl, nm, en, ints, setC_setC, Nat.reduceAdd, Nat.reduceMul]; exact rfl), ?_⟩ | refine ⟨_, pickT rfl, ?_⟩ | refine ⟨_, rfl, ?_⟩ | refine iteP_true rfl ?_ | refine iteP_false rfl ?_ | refine iteP_true ‹_› ?_ | refine iteP_false ‹_› ?_ | refine andK ?_ | refine andA ?_ | refine andT ?_); conv => whnf) | (refine iteP_intro (fun hb => ?_) (fun hb => ?_) <;> (conv => whnf)))
    exact ⟨n, ds, xs, ys, _, rfl, .inr rfl, h1, h2, h3⟩
  · (refine ⟨_, hr0, ?_⟩; conv => whnf)
    repeat' (first | ((first | refine opt_some (getC_rows rfl rfl (by omega)) ?_ | refine opt_some (by dsimp only; exact getC_lent rfl rfl (by omega)) ?_ | refine opt_some rfl ?_ | refine ⟨_, (by simp only [nf, nl, nm, en, ints, setC_setC, Nat.reduceAdd, Nat.reduceMul]; exact rfl), ?_⟩ | refine ⟨_, pickT rfl, ?_⟩ | refine ⟨_, rfl, ?_⟩ | refine iteP_true rfl ?_ | refine iteP_false rfl ?_ | refine iteP_true ‹_› ?_ | refine iteP_false ‹_› ?_ | refine andK ?_ | refine andA ?_ | refine andT ?_); conv => whnf) | (refine iteP_intro (fun hb => ?_) (fun hb => ?_) <;> (conv => whnf)))
    exact ⟨n, ds, xs, ys, _, rfl, .inr rfl, h1, h2, h3⟩
end Go.Proofs.YtpopepcmfanegaaDoor
