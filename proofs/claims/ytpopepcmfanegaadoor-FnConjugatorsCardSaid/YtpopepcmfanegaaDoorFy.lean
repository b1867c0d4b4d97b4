import Derived.Test.YtpopepcmfanegaaDoorFx
set_option autoImplicit false
set_option linter.unusedSimpArgs false
set_option linter.unusedVariables false
namespace Go.Proofs.YtpopepcmfanegaaDoor
open Go.Den
set_option maxHeartbeats 4000000 in
set_option maxRecDepth 100000 in
theorem draw3_ex (bs : List Int) (hs : Src bs) (a h : Int) (ha : At0 bs a) (n : Nat) (ds : List Int) (hn : n ≤ 8) (most : Nat) (hmost : most ≤ 1000) : ∃ r, (∃ (w : List Nat) (a' h' : Int), r = ⟨.one (ints (natI w)), [.one (srcC bs a' h')]⟩ ∧ At0 bs a' ∧ (∀ c ∈ w, c < n) ∧ w.length ≤ most) ∧ Ret Tryd.prog G0 92 [⟨.mu, .one (srcC bs a h)⟩, ⟨.ro, .agg [i64 n, ints ds]⟩, ⟨.ro, .one (i64 most)⟩] r := by
  have hw1 : IntKind.i64.wrap ((most : Int) + 1) = (most : Int) + 1 := wrap_i64 (by omega) (by omega)
  have hnx := fun a h ha n => next_ex bs hs a h n ha
  unfold srcC byC at *
  (refine rete_of_den (E := en 47 [] (fun _ => [(0, 0), (4, 0), (7, 0), (8, 0), (47, 2)]) (fun _ => [])) tt_ok mixed Tryd.func92 rfl rfl rfl rfl ?_; refine ⟨by simp, ?_⟩)
  repeat' (first | ((first | refine opt_some (getC_rows rfl rfl (by omega)) ?_ | refine opt_some (by dsimp only; exact getC_lent rfl rfl (by omega)) ?_ | refine opt_some rfl ?_ | refine ⟨_, (by simp only [nf, nl, nm, en, ints, setC_setC, Nat.reduceAdd, Nat.reduceMul, hw1]; exact rfl), ?_⟩ | refine ⟨_, pickT rfl, ?_⟩ | refine ⟨_, rfl, ?_⟩ | refine iteP_true rfl ?_ | refine iteP_false rfl ?_ | refine iteP_true ‹_› ?_ | refine iteP_false ‹_› ?_ | refine andK ?_ | refine andA ?_ | refine andT ?_); conv => whnf) | (refine iteP_intro (fun hb => ?_) (fun hb => ?_) <;> (conv => whnf)))
  · exact ⟨[], a, h, rfl, ha, by simp, by simp⟩
  have hn0 : 0 < n := by have := eqF hb; omega
  obtain ⟨r1, ⟨x1, a1, h1, rfl, ha1, hx10, -, hx11⟩, hr1⟩ := hnx a h ha ((most : Int) + 1)
  have hx11 := hx11 (by omega)
  obtain ⟨q, rfl⟩ : ∃ q : Nat, x1 = q := ⟨x1.toNat, by omega⟩
  (refine ⟨_, hr1, ?_⟩; conv => whnf)
  repeat' (first | ((first | refine opt_some (getC_rows rfl rfl (by omega)) ?_ | refine opt_some (by dsimp only; exact getC_lent rfl rfl (by omega)) ?_ | refine opt_some rfl ?_ | refine ⟨_, (by simp only [nf, nl, nm, en, ints, setC_setC, Nat.reduceAdd, Nat.reduceMul]; exact rfl), ?_⟩ | refine ⟨_, pickT rfl, ?_⟩ | refine ⟨_, rfl, ?_⟩ | refine iteP_true rfl ?_ | refine iteP_false rfl ?_ | refine iteP_true ‹_› ?_ | refine iteP_false ‹_› ?_ | refine andK ?_ | refine andA ?_ | refine andT ?_); conv => whnf) | (refine iteP_intro (fun hb => ?_) (fun hb => ?_) <;> (conv => whnf)))
  refine ⟨fun k vs => ∃ (w : List Nat) (q : Nat) (a' h' : Int), At0 bs a' ∧ (∀ c ∈ w, c < n) ∧ w.length + q ≤ most ∧ vs = [.one (.ptr [.shd (.sl false 1 bs.length (bs.map u8c)), i64 a', .c (.int .u64 h')]), .one (.ptr [i64 n, .shd (ints ds)]), .one (ints (natI w)), .one (i64 q), .dead] ∧ k = q, rfl, ⟨_, [], q, a1, h1, ha1, by simp, by simp; omega, rfl, rfl⟩, ?_⟩
  rintro p vs ⟨w, q, a2, h2, ha2, hw, hwl, rfl, rfl⟩
  have hwn := natI_length w
  repeat (first | ((first | refine opt_some (getC_rows rfl rfl (by omega)) ?_ | refine opt_some (by dsimp only; exact getC_lent rfl rfl (by omega)) ?_ | refine opt_some rfl ?_ | refine ⟨_, (by simp only [nf, nl, nm, en, ints, setC_setC, Nat.reduceAdd, Nat.reduceMul]; exact rfl), ?_⟩ | refine ⟨_, pickT rfl, ?_⟩ | refine ⟨_, rfl, ?_⟩ | refine iteP_true rfl ?_ | refine iteP_false rfl ?_ | refine iteP_true ‹_› ?_ | refine iteP_false ‹_› ?_ | refine andK ?_ | refine andA ?_ | refine andT ?_); conv => whnf))
  refine iteP_intro (fun hb => ?_) (fun hb => ?_) <;> (conv => whnf)
  · have hq : 0 < p := by have := leT hb; omega
    have hq1 : IntKind.i64.wrap ((p : Int) - 1) = ((p - 1 : Nat) : Int) := by rw [wrap_i64 (by omega) (by omega)]; omega
    have step : ∀ c, c < n → ∀ x ∈ w ++ [c], x < n := fun c hc x hx => by
      rcases List.mem_append.1 hx with h | h
      · exact hw x h
      · simp at h; omega
    repeat (first | ((first | refine opt_some (getC_rows rfl rfl (by omega)) ?_ | refine opt_some (by dsimp only; exact getC_lent rfl rfl (by omega)) ?_ | refine opt_some rfl ?_ | refine ⟨_, (by simp only [nf, nl, nm, en, ints, setC_setC, Nat.reduceAdd, Nat.reduceMul]; exact rfl), ?_⟩ | refine ⟨_, pickT rfl, ?_⟩ | refine ⟨_, rfl, ?_⟩ | refine iteP_true rfl ?_ | refine iteP_false rfl ?_ | refine iteP_true ‹_› ?_ | refine iteP_false ‹_› ?_ | refine andK ?_ | refine andA ?_ | refine andT ?_); conv => whnf))
    refine iteP_intro (fun hb => ?_) (fun hb => ?_) <;> (conv => whnf)
    · have hlen : 0 < w.length := by have := leT hb; omega
      obtain ⟨r3, ⟨x3, a3, h3, rfl, ha3, -, -, -⟩, hr3⟩ := hnx a2 h2 ha2 8
      have hl1 : IntKind.i64.wrap (((natI w).length : Int) - 1) = ((w.length - 1 : Nat) : Int) := by rw [wrap_i64 (by omega) (by omega)]; omega
      have hgl : (natI w)[w.length - 1]'(by omega) = ((w.getD (w.length - 1) 0 : Nat) : Int) := natI_getD (by omega)
      have hcl : w.getD (w.length - 1) 0 < n := by
        rw [List.getD_eq_getElem?_getD, List.getElem?_eq_getElem (by omega), Option.getD_some]
        exact hw _ (List.getElem_mem (by omega))
      repeat (first | ((first | refine opt_some (getC_rows rfl rfl (by omega)) ?_ | refine opt_some (by dsimp only; exact getC_lent rfl rfl (by omega)) ?_ | refine opt_some rfl ?_ | refine ⟨_, (by simp only [nf, nl, nm, en, ints, setC_setC, Nat.reduceAdd, Nat.reduceMul]; exact rfl), ?_⟩ | refine ⟨_, pickT rfl, ?_⟩ | refine ⟨_, rfl, ?_⟩ | refine iteP_true rfl ?_ | refine iteP_false rfl ?_ | refine iteP_true ‹_› ?_ | refine iteP_false ‹_› ?_ | refine andK ?_ | refine andA ?_ | refine andT ?_); conv => whnf))
      (refine ⟨_, hr3, ?_⟩; conv => whnf)
      repeat (first | ((first | refine opt_some (getC_rows rfl rfl (by omega)) ?_ | refine opt_some (by dsimp only; exact getC_lent rfl rfl (by omega)) ?_ | refine opt_some rfl ?_ | refine ⟨_, (by simp only [nf, nl, nm, en, ints, setC_setC, Nat.reduceAdd, Nat.reduceMul]; exact rfl), ?_⟩ | refine ⟨_, pickT rfl, ?_⟩ | refine ⟨_, rfl, ?_⟩ | refine iteP_true rfl ?_ | refine iteP_false rfl ?_ | refine iteP_true ‹_› ?_ | refine iteP_false ‹_› ?_ | refine andK ?_ | refine andA ?_ | refine andT ?_); conv => whnf))
      refine iteP_intro (fun hb => ?_) (fun hb => ?_) <;> (conv => whnf)
      · repeat (first | ((first | refine opt_some (getC_rows rfl rfl (by omega)) ?_ | refine opt_some (by dsimp only; exact getC_lent rfl rfl (by omega)) ?_ | refine opt_some rfl ?_ | refine ⟨_, (by simp only [nf, nl, nm, en, ints, setC_setC, Nat.reduceAdd, Nat.reduceMul, hl1, hgl, hq1]; exact rfl), ?_⟩ | refine ⟨_, pickT rfl, ?_⟩ | refine ⟨_, rfl, ?_⟩ | refine iteP_true rfl ?_ | refine iteP_false rfl ?_ | refine iteP_true ‹_› ?_ | refine iteP_false ‹_› ?_ | refine andK ?_ | refine andA ?_ | refine andT ?_); conv => whnf))
        refine ⟨_, ?_, w ++ [w.getD (w.length - 1) 0], p - 1, a3, h3, ha3, step _ hcl, by rw [List.length_append, List.length_singleton]; omega, ?_, rfl⟩
        · omega
        · rw [ints_natI_snoc]
          rfl
      · obtain ⟨r4, ⟨x4, a4, h4, rfl, ha4, hx40, -, hx41⟩, hr4⟩ := hnx a3 h3 ha3 n
        have hx41 := hx41 (by omega)
        obtain ⟨c, rfl⟩ : ∃ c : Nat, x4 = c := ⟨x4.toNat, by omega⟩
        repeat (first | ((first | refine opt_some (getC_rows rfl rfl (by omega)) ?_ | refine opt_some (by dsimp only; exact getC_lent rfl rfl (by omega)) ?_ | refine opt_some rfl ?_ | refine ⟨_, (by simp only [nf, nl, nm, en, ints, setC_setC, Nat.reduceAdd, Nat.reduceMul]; exact rfl), ?_⟩ | refine ⟨_, pickT rfl, ?_⟩ | refine ⟨_, rfl, ?_⟩ | refine iteP_true rfl ?_ | refine iteP_false rfl ?_ | refine iteP_true ‹_› ?_ | refine iteP_false ‹_› ?_ | refine andK ?_ | refine andA ?_ | refine andT ?_); conv => whnf))
        (refine ⟨_, hr4, ?_⟩; conv => whnf)
        repeat (first | ((first | refine opt_some (getC_rows rfl rfl (by omega)) ?_ | refine opt_some (by dsimp only; exact getC_lent rfl rfl (by omega)) ?_ | refine opt_some rfl ?_ | refine ⟨_, (by simp only [nf, nl, nm, en, ints, setC_setC, Nat.reduceAdd, Nat.reduceMul, hq1]; exact rfl), ?_⟩ | refine ⟨_, pickT rfl, ?_⟩ | refine ⟨_, rfl, ?_⟩ | refine iteP_true rfl ?_ | refine iteP_false rfl ?_ | refine iteP_true ‹_› ?_ | refine iteP_false ‹_› ?_ | refine andK ?_ | refine andA ?_ | refine andT ?_); conv => whnf))
        refine ⟨_, ?_, w ++ [c], p - 1, a4, h4, ha4, step _ (by omega), by rw [List.length_append, List.length_singleton]; omega, ?_, rfl⟩
        · omega
        · rw [ints_natI_snoc]
          rfl
    · obtain ⟨r4, ⟨x4, a4, h4, rfl, ha4, hx40, -, hx41⟩, hr4⟩ := hnx a2 h2 ha2 n
      have hx41 := hx41 (by omega)
      obtain ⟨c, rfl⟩ : ∃ c : Nat, x4 = c := ⟨x4.toNat, by omega⟩
      repeat (first | ((first | refine opt_some (getC_rows rfl rfl (by omega)) ?_ | refine opt_some (by dsimp only; exact getC_lent rfl rfl (by omega)) ?_ | refine opt_some rfl ?_ | refine ⟨_, (by simp only [nf, nl, nm, en, ints, setC_setC, Nat.reduceAdd, Nat.reduceMul]; exact rfl), ?_⟩ | refine ⟨_, pickT rfl, ?_⟩ | refine ⟨_, rfl, ?_⟩ | refine iteP_true rfl ?_ | refine iteP_false rfl ?_ | refine iteP_true ‹_› ?_ | refine iteP_false ‹_› ?_ | refine andK ?_ | refine andA ?_ | refine andT ?_); conv => whnf))
      (refine ⟨_, hr4, ?_⟩; conv => whnf)
      repeat (first | ((first | refine opt_some (getC_rows rfl rfl (by omega)) ?_ | refine opt_some (by dsimp only; exact getC_lent rfl rfl (by omega)) ?_ | refine opt_some rfl ?_ | refine ⟨_, (by simp only [nf, nl, nm, en, ints, setC_setC, Nat.reduceAdd, Nat.reduceMul, hq1]; exact rfl), ?_⟩ | refine ⟨_, pickT rfl, ?_⟩ | refine ⟨_, rfl, ?_⟩ | refine iteP_true rfl ?_ | refine iteP_false rfl ?_ | refine iteP_true ‹_› ?_ | refine iteP_false ‹_› ?_ | refine andK ?_ | refine andA ?_ | refine andT ?_); conv => whnf))
      refine ⟨_, ?_, w ++ [c], p - 1, a4, h4, ha4, step _ (by omega), by rw [List.length_append, List.length_singleton]; omega, ?_, rfl⟩
      · omega
      · rw [ints_natI_snoc]
        rfl
  · repeat' (first | ((first | refine opt_some (getC_rows rfl rfl (by omega)) ?_ | refine opt_some (by dsimp only; exact getC_lent rfl rfl (by omega)) ?_ | refine opt_some rfl ?_ | refine ⟨_, (by simp only [nf, nl, nm, en, ints, setC_setC, Nat.reduceAdd, Nat.reduceMul]; exact rfl), ?_⟩ | refine ⟨_, pickT rfl, ?_⟩ | refine ⟨_, rfl, ?_⟩ | refine iteP_true rfl ?_ | refine iteP_false rfl ?_ | refine iteP_true ‹_› ?_ | refine iteP_false ‹_› ?_ | refine andK ?_ | refine andA ?_ | refine andT ?_); conv => whnf) | (refine iteP_intro (fun hb => ?_) (fun hb => ?_) <;> (conv => whnf)))
    exact ⟨w, a2, h2, rfl, ha2, hw, by omega⟩
theorem splice_int {xs : List Int} {c : Nat} {n : Int} {v : Int} (hn : n = c) (hc : c < xs.length) : splice (xs.map i64) (n.toNat * 1) [.c (.int .i64 v)] = (xs.set c v).map i64 := splice_at hn hc
set_option maxHeartbeats 4000000 in
set_option maxRecDepth 100000 in
theorem spoil2_ex (bs : List Int) (hs : Src bs) (a h : Int) (ha : At0 bs a) (most : Nat) (hmost : most ≤ 8) : ∃ r, (∃ (n : Int) (ds : List Int) (a' h' : Int), r = ⟨.agg [i64 n, ints ds], [.one (srcC bs a' h')]⟩ ∧ At0 bs a' ∧ ds.length ≤ 9) ∧ Ret Tryd.prog G0 118 [⟨.mu, .one (srcC bs a h)⟩, ⟨.ro, .one (i64 most)⟩] r := by
  have hnx := fun a h ha n => next_ex bs hs a h n ha
  have hpk := fun a h ha xs hx hy => pick_ex bs hs a h ha xs hx hy
  obtain ⟨r0, ⟨ms, a0, h0, rfl, ha0, hA, hl⟩, hr0⟩ := draw2_ex bs hs a h ha most hmost
  obtain ⟨r1, ⟨x1, a1, h1, rfl, ha1, -, -, -⟩, hr1⟩ := next_ex bs hs a0 h0 14 ha0
  have hnl := natI_length ms
  unfold srcC byC at *
  (refine rete_of_den (E := en 72 [] (fun _ => []) (fun _ => [])) tt_ok mixed Tryd.func118 rfl rfl rfl rfl ?_; refine ⟨by simp, ?_⟩)
  repeat' (first | ((first | refine opt_some (getC_rows rfl rfl (by omega)) ?_ | refine opt_some (by dsimp only; exact getC_lent rfl rfl (by omega)) ?_ | refine opt_some rfl ?_ | refine ⟨_, (by simp only [nf, nl, nm, en, ints, setC_setC, Nat.reduceAdd, Nat.reduceMul]; exact rfl), ?_⟩ | refine ⟨_, pickT rfl, ?_⟩ | refine ⟨_, rfl, ?_⟩ | refine iteP_true rfl ?_ | refine iteP_false rfl ?_ | refine iteP_true ‹_› ?_ | refine iteP_false ‹_› ?_ | refine andK ?_ | refine andA ?_ | refine andT ?_); conv => whnf) | (refine iteP_intro (fun hb => ?_) (fun hb => ?_) <;> (conv => whnf)))
  (refine ⟨_, hr0, ?_⟩; conv => whnf)
  repeat' (first | ((first | refine opt_some (getC_rows rfl rfl (by omega)) ?_ | refine opt_some (by dsimp only; exact getC_lent rfl rfl (by omega)) ?_ | refine opt_some rfl ?_ | refine ⟨_, (by simp only [nf, nl, nm, en, ints, setC_setC, Nat.reduceAdd, Nat.reduceMul]; exact rfl), ?_⟩ | refine ⟨_, pickT rfl, ?_⟩ | refine ⟨_, rfl, ?_⟩ | refine iteP_true rfl ?_ | refine iteP_false rfl ?_ | refine iteP_true ‹_› ?_ | refine iteP_false ‹_› ?_ | refine andK ?_ | refine andA ?_ | refine andT ?_); conv => whnf) | (refine iteP_intro (fun hb => ?_) (fun hb => ?_) <;> (conv => whnf)))
  (refine ⟨_, hr1, ?_⟩; conv => whnf)
  repeat' (first | ((first | refine opt_some (getC_rows rfl rfl (by omega)) ?_ | refine opt_some (by dsimp only; exact getC_lent rfl rfl (by omega)) ?_ | refine opt_some rfl ?_ | refine ⟨_, (by simp only [nf, nl, nm, en, ints, setC_setC, Nat.reduceAdd, Nat.reduceMul]; exact rfl), ?_⟩ | refine ⟨_, pickT rfl, ?_⟩ | refine ⟨_, rfl, ?_⟩ | refine iteP_true rfl ?_ | refine iteP_false rfl ?_ | refine iteP_true ‹_› ?_ | refine iteP_false ‹_› ?_ | refine andK ?_ | refine andA ?_ | refine andT ?_); conv => whnf) | (refine iteP_intro (fun hb => ?_) (fun hb => ?_) <;> (conv => whnf)))
  · exact ⟨_, natI ms, a1, h1, rfl, ha1, by omega⟩
  obtain ⟨r2, ⟨x2, a2, h2, rfl, ha2, -, -, -⟩, hr2⟩ := hnx a1 h1 ha1 4
  (refine ⟨_, hr2, ?_⟩; conv => whnf)
  have hw1 : IntKind.i64.wrap ((ms.length : Int) + 1) = (ms.length : Int) + 1 := wrap_i64 (by omega) (by omega)
  repeat' (first | ((first | refine opt_some (getC_rows rfl rfl (by omega)) ?_ | refine opt_some (by dsimp only; exact getC_lent rfl rfl (by omega)) ?_ | refine opt_some rfl ?_ | refine ⟨_, (by simp only [nf, nl, nm, en, ints, setC_setC, Nat.reduceAdd, Nat.reduceMul, hw1]; exact rfl), ?_⟩ | refine ⟨_, pickT rfl, ?_⟩ | refine ⟨_, rfl, ?_⟩ | refine iteP_true rfl ?_ | refine iteP_false rfl ?_ | refine iteP_true ‹_› ?_ | refine iteP_false ‹_› ?_ | refine andK ?_ | refine andA ?_ | refine andT ?_); conv => whnf) | (refine iteP_intro (fun hb => ?_) (fun hb => ?_) <;> (conv => whnf)))
  · obtain ⟨r3, ⟨x3, a3, h3, rfl, ha3, -⟩, hr3⟩ := hpk a2 h2 ha2 [-1, 9, (ms.length : Int) + 1] (by simp) (by simp)
    (refine ⟨_, hr3, ?_⟩; conv => whnf)
    repeat' (first | ((first | refine opt_some (getC_rows rfl rfl (by omega)) ?_ | refine opt_some (by dsimp only; exact getC_lent rfl rfl (by omega)) ?_ | refine opt_some rfl ?_ | refine ⟨_, (by simp only [nf, nl, nm, en, ints, setC_setC, Nat.reduceAdd, Nat.reduceMul]; exact rfl), ?_⟩ | refine ⟨_, pickT rfl, ?_⟩ | refine ⟨_, rfl, ?_⟩ | refine iteP_true rfl ?_ | refine iteP_false rfl ?_ | refine iteP_true ‹_› ?_ | refine iteP_false ‹_› ?_ | refine andK ?_ | refine andA ?_ | refine andT ?_); conv => whnf) | (refine iteP_intro (fun hb => ?_) (fun hb => ?_) <;> (conv => whnf)))
    exact ⟨x3, natI ms, a3, h3, rfl, ha3, by omega⟩
  · obtain ⟨r3, ⟨x3, a3, h3, rfl, ha3, -⟩, hr3⟩ := hpk a2 h2 ha2 [0, 1, 255] (by simp) (by simp)
    (refine ⟨_, hr3, ?_⟩; conv => whnf)
    repeat' (first | ((first | refine opt_some (getC_rows rfl rfl (by omega)) ?_ | refine opt_some (by dsimp only; exact getC_lent rfl rfl (by omega)) ?_ | refine opt_some rfl ?_ | refine ⟨_, (by simp only [nf, nl, nm, en, ints, setC_setC, Nat.reduceAdd, Nat.reduceMul]; exact rfl), ?_⟩ | refine ⟨_, pickT rfl, ?_⟩ | refine ⟨_, rfl, ?_⟩ | refine iteP_true rfl ?_ | refine iteP_false rfl ?_ | refine iteP_true ‹_› ?_ | refine iteP_false ‹_› ?_ | refine andK ?_ | refine andA ?_ | refine andT ?_); conv => whnf) | (refine iteP_intro (fun hb => ?_) (fun hb => ?_) <;> (conv => whnf)))
    exact ⟨ms.length, natI ms ++ [x3], a3, h3, by rw [ints_snoc]; rfl, ha3, by simp; omega⟩
  · obtain ⟨r3, ⟨x3, a3, h3, rfl, ha3, hx30, -, hx31⟩, hr3⟩ := hnx a2 h2 ha2 ms.length
    have hp : 0 < ms.length := by have := leT hb; omega
    have hx31 := hx31 (by omega)
    obtain ⟨p, rfl⟩ : ∃ p : Nat, x3 = p := ⟨x3.toNat, by omega⟩
    have hpl : p < ms.length := by omega
    have hgp : (natI ms)[p]'(by rw [hnl]; exact hpl) = ((ms.getD p 0 : Nat) : Int) := natI_getD hpl
    have hm63 := getD_lt' hA.lt (by omega) hpl
    have ho1 := or_i64 (a := ms.getD p 0) (b := 2 ^ ms.length) hm63 (pow_lt_63 (by omega))
    (refine ⟨_, hr3, ?_⟩; conv => whnf)
    repeat' (first | ((first | refine opt_some (getC_rows rfl rfl (by omega)) ?_ | refine opt_some (by dsimp only; exact getC_lent rfl rfl (by omega)) ?_ | refine opt_some rfl ?_ | refine ⟨_, (by simp only [nf, nl, nm, en, ints, setC_setC, Nat.reduceAdd, Nat.reduceMul, hgp]; exact rfl), ?_⟩ | refine ⟨_, pickT rfl, ?_⟩ | refine ⟨_, rfl, ?_⟩ | refine iteP_true rfl ?_ | refine iteP_false rfl ?_ | refine iteP_true ‹_› ?_ | refine iteP_false ‹_› ?_ | refine andK ?_ | refine andA ?_ | refine andT ?_); conv => whnf) | (refine iteP_intro (fun hb => ?_) (fun hb => ?_) <;> (conv => whnf)))
    (refine ⟨_, l01One_ret p (by omega), ?_⟩; conv => whnf)
    repeat' (first | ((first | refine opt_some (getC_rows rfl rfl (by omega)) ?_ | refine opt_some (by dsimp only; exact getC_lent rfl rfl (by omega)) ?_ | refine opt_some rfl ?_ | refine ⟨_, (by simp only [nf, nl, nm, en, ints, setC_setC, Nat.reduceAdd, Nat.reduceMul, hgp]; exact rfl), ?_⟩ | refine ⟨_, pickT rfl, ?_⟩ | refine ⟨_, rfl, ?_⟩ | refine iteP_true rfl ?_ | refine iteP_false rfl ?_ | refine iteP_true ‹_› ?_ | refine iteP_false ‹_› ?_ | refine andK ?_ | refine andA ?_ | refine andT ?_); conv => whnf) | (refine iteP_intro (fun hb => ?_) (fun hb => ?_) <;> (conv => whnf)))
    (refine ⟨_, l01One_ret ms.length (by omega), ?_⟩; conv => whnf)
    repeat' (first | ((first | refine opt_some (getC_rows rfl rfl (by omega)) ?_ | refine opt_some (by dsimp only; exact getC_lent rfl rfl (by omega)) ?_ | refine opt_some rfl ?_ | refine ⟨_, (by simp only [nf, nl, nm, en, ints, setC_setC, Nat.reduceAdd, Nat.reduceMul, hgp, ho1]; exact rfl), ?_⟩ | refine ⟨_, pickT rfl, ?_⟩ | refine ⟨_, rfl, ?_⟩ | refine iteP_true rfl ?_ | refine iteP_false rfl ?_ | refine iteP_true ‹_› ?_ | refine iteP_false ‹_› ?_ | refine andK ?_ | refine andA ?_ | refine andT ?_); conv => whnf) | (refine iteP_intro (fun hb => ?_) (fun hb => ?_) <;> (conv => whnf)))
    (refine ⟨_, l01One_ret ms.length (by omega), ?_⟩; conv => whnf)
    obtain ⟨r5, ⟨x5, a5, h5, rfl, ha5, -, -, -⟩, hr5⟩ := hnx a3 h3 ha3 ((2 ^ ms.length : Nat) : Int)
    repeat' (first | ((first | refine opt_some (getC_rows rfl rfl (by omega)) ?_ | refine opt_some (by dsimp only; exact getC_lent rfl rfl (by omega)) ?_ | refine opt_some rfl ?_ | refine ⟨_, (by simp only [nf, nl, nm, en, ints, setC_setC, Nat.reduceAdd, Nat.reduceMul, hgp, ho1]; exact rfl), ?_⟩ | refine ⟨_, pickT rfl, ?_⟩ | refine ⟨_, rfl, ?_⟩ | refine iteP_true rfl ?_ | refine iteP_false rfl ?_ | refine iteP_true ‹_› ?_ | refine iteP_false ‹_› ?_ | refine andK ?_ | refine andA ?_ | refine andT ?_); conv => whnf) | (refine iteP_intro (fun hb => ?_) (fun hb => ?_) <;> (conv => whnf)))
    (refine ⟨_, hr5, ?_⟩; conv => whnf)
    obtain ⟨r6, ⟨x6, a6, h6, rfl, ha6, -⟩, hr6⟩ := hpk a5 h5 ha5 [IntKind.i64.wrap (((ms.getD p 0 : Nat) : Int) - ((2 ^ p : Nat) : Int)), ((ms.getD p 0 ||| 2 ^ ms.length : Nat) : Int), x5, -1] (by simp) (by simp)
    repeat' (first | ((first | refine opt_some (getC_rows rfl rfl (by omega)) ?_ | refine opt_some (by dsimp only; exact getC_lent rfl rfl (by omega)) ?_ | refine opt_some rfl ?_ | refine ⟨_, (by simp only [nf, nl, nm, en, ints, setC_setC, Nat.reduceAdd, Nat.reduceMul, hgp, ho1]; exact rfl), ?_⟩ | refine ⟨_, pickT rfl, ?_⟩ | refine ⟨_, rfl, ?_⟩ | refine iteP_true rfl ?_ | refine iteP_false rfl ?_ | refine iteP_true ‹_› ?_ | refine iteP_false ‹_› ?_ | refine andK ?_ | refine andA ?_ | refine andT ?_); conv => whnf) | (refine iteP_intro (fun hb => ?_) (fun hb => ?_) <;> (conv => whnf)))
    (refine ⟨_, hr6, ?_⟩; conv => whnf)
    repeat' (first | ((first | refine opt_some (getC_rows rfl rfl (by omega)) ?_ | refine opt_some (by dsimp only; exact getC_lent rfl rfl (by omega)) ?_ | refine opt_some rfl ?_ | refine ⟨_, (by simp only [nf, nl, nm, en, ints, setC_setC, Nat.reduceAdd, Nat.reduceMul, hgp, ho1]; exact rfl), ?_⟩ | refine ⟨_, pickT rfl, ?_⟩ | refine ⟨_, rfl, ?_⟩ | refine iteP_true rfl ?_ | refine iteP_false rfl ?_ | refine iteP_true ‹_› ?_ | refine iteP_false ‹_› ?_ | refine andK ?_ | refine andA ?_ | refine andT ?_); conv => whnf) | (refine iteP_intro (fun hb => ?_) (fun hb => ?_) <;> (conv => whnf)))
    refine ⟨⟨by rw [Int.toNat_natCast, List.length_map, hnl]; show p * 1 + 1 ≤ _; omega, plain_i64 _⟩, ?_⟩
    conv => whnf
    have hlen : (natI ms).length = ((natI ms).set p x6).length := by rw [List.length_set]
    refine ⟨_, by simp only [nf, nl, nm, en, ints, setC_setC, Nat.reduceAdd, Nat.reduceMul]; rw [splice_int rfl (by rw [hnl]; exact hpl), hlen], ?_⟩
    conv => whnf
    repeat' (first | ((first | refine opt_some (getC_rows rfl rfl (by omega)) ?_ | refine opt_some (by dsimp only; exact getC_lent rfl rfl (by omega)) ?_ | refine opt_some rfl ?_ | refine ⟨_, (by simp only [nf, nl, nm, en, ints, setC_setC, Nat.reduceAdd, Nat.reduceMul]; exact rfl), ?_⟩ | refine ⟨_, pickT rfl, ?_⟩ | refine ⟨_, rfl, ?_⟩ | refine iteP_true rfl ?_ | refine iteP_false rfl ?_ | refine iteP_true ‹_› ?_ | refine iteP_false ‹_› ?_ | refine andK ?_ | refine andA ?_ | refine andT ?_); conv => whnf) | (refine iteP_intro (fun hb => ?_) (fun hb => ?_) <;> (conv => whnf)))
    exact ⟨ms.length, (natI ms).set p x6, a6, h6, rfl, ha6, by rw [List.length_set]; omega⟩
  · exact ⟨_, natI ms, a2, h2, rfl, ha2, by omega⟩
end Go.Proofs.YtpopepcmfanegaaDoor
