import Derived.Test.YtpopepcmfanegaaDoorFzd
set_option autoImplicit false
set_option linter.unusedSimpArgs false
set_option linter.unusedVariables false
namespace Go.Proofs.YtpopepcmfanegaaDoor
open Go.Den
theorem frI_cases {ms : List Nat} {a : Nat} (w : List Nat) : ∃ (b : Bool) (x : Int), canF ms a w = b ∧ frI ms a w 0 = x ∧ ((b = false ∧ x = -1) ∨ (b = true ∧ ∃ i : Nat, i < w.length ∧ x = i ∧ w.take i ++ w.drop (i + 1) = w.erase a)) := by
  rcases frI_spec (ms := ms) (a := a) w 0 with ⟨hc, i, hi, hf, hs⟩ | ⟨hc, hf⟩
  · exact ⟨_, _, hc, hf, .inr ⟨rfl, i, hi, by rw [Nat.zero_add], hs⟩⟩
  · exact ⟨_, _, hc, hf, .inl ⟨rfl, rfl⟩⟩
theorem turn_all {n p c : Nat} (hp : p < n) (hc : c < n) : ∃ j, j < n ∧ (p + j) % n = c := by
  by_cases h : p ≤ c
  · exact ⟨c - p, by omega, by rw [show p + (c - p) = c by omega, Nat.mod_eq_of_lt hc]⟩
  · refine ⟨c + n - p, by omega, ?_⟩
    rw [show p + (c + n - p) = c + n by omega, Nat.add_mod_right, Nat.mod_eq_of_lt hc]
set_option maxHeartbeats 4000000 in
set_option maxRecDepth 100000 in
theorem shuffle3_ex (bs : List Int) (hs : Src bs) (a h : Int) (ha : At0 bs a) (ms w : List Nat) (hA : Alpha ms) (hl : ms.length ≤ 8) (hw : Wd ms w) (hx : w.length ≤ 64) : ∃ r, (∃ (u : List Nat) (a' h' : Int), r = ⟨.one (ints (natI u)), [.one (srcC bs a' h')]⟩ ∧ At0 bs a' ∧ u.length ≤ 64 ∧ (w ≠ [] → ∃ a t, u = a :: t ∧ a < ms.length ∧ canF ms a w = true)) ∧ Ret Tryd.prog G0 93 [⟨.mu, .one (srcC bs a h)⟩, ⟨.ro, .agg [i64 ms.length, ints (natI ms)]⟩, ⟨.ro, .one (ints (natI w))⟩] r := by
  have hnx := fun a h ha n => next_ex bs hs a h n ha
  have hmn := natI_length ms
  have hwn := natI_length w
  unfold srcC byC at *
  (refine rete_of_den (E := en 49 [] (fun | 2 => [(0, 0), (4, 0), (7, 0), (8, 0), (49, 2)] | 5 => [(0, 0), (4, 0), (7, 0), (8, 0), (9, 0), (10, 0), (49, 2)] | _ => []) (fun _ => [])) tt_ok mixed Tryd.func93 rfl rfl rfl rfl ?_; refine ⟨by simp, ?_⟩)
  repeat' (first | ((first | refine opt_some (getC_rows rfl rfl (by omega)) ?_ | refine opt_some (by dsimp only; exact getC_lent rfl rfl (by omega)) ?_ | refine opt_some rfl ?_ | refine ⟨_, (by simp only [nf, nl, nm, en, ints, setC_setC, Nat.reduceAdd, Nat.reduceMul]; exact rfl), ?_⟩ | refine ⟨_, pickT rfl, ?_⟩ | refine ⟨_, rfl, ?_⟩ | refine iteP_true rfl ?_ | refine iteP_false rfl ?_ | refine iteP_true ‹_› ?_ | refine iteP_false ‹_› ?_ | refine andK ?_ | refine andA ?_ | refine andT ?_); conv => whnf) | (refine iteP_intro (fun hb => ?_) (fun hb => ?_) <;> (conv => whnf)))
  (refine ⟨_, l01Own_ret (natI w) (by omega), ?_⟩; conv => whnf)
  repeat' (first | ((first | refine opt_some (getC_rows rfl rfl (by omega)) ?_ | refine opt_some (by dsimp only; exact getC_lent rfl rfl (by omega)) ?_ | refine opt_some rfl ?_ | refine ⟨_, (by simp only [nf, nl, nm, en, ints, setC_setC, Nat.reduceAdd, Nat.reduceMul]; exact rfl), ?_⟩ | refine ⟨_, pickT rfl, ?_⟩ | refine ⟨_, rfl, ?_⟩ | refine iteP_true rfl ?_ | refine iteP_false rfl ?_ | refine iteP_true ‹_› ?_ | refine iteP_false ‹_› ?_ | refine andK ?_ | refine andA ?_ | refine andT ?_); conv => whnf) | (refine iteP_intro (fun hb => ?_) (fun hb => ?_) <;> (conv => whnf)))
  refine ⟨fun k vs => ∃ (u r : List Nat) (a' h' : Int), At0 bs a' ∧ Wd ms r ∧ u.length + r.length ≤ 64 ∧ ((u = [] ∧ r = w) ∨ ∃ a t, u = a :: t ∧ a < ms.length ∧ canF ms a w = true) ∧ vs = [.one (.ptr [.shd (.sl false 1 bs.length (bs.map u8c)), i64 a', .c (.int .u64 h')]), .one (.ptr [i64 ms.length, .shd (ints (natI ms))]), .one (ints (natI u)), .one (ints (natI r)), .dead] ∧ k = r.length, rfl, ⟨_, [], w, a, h, ha, hw, by simp; omega, .inl ⟨rfl, rfl⟩, rfl, rfl⟩, ?_⟩
  rintro k vs ⟨u, r, a1, h1, ha1, hr, hur, hfst, rfl, rfl⟩
  have hun := natI_length u
  have hrn := natI_length r
  repeat (first | ((first | refine opt_some (getC_rows rfl rfl (by omega)) ?_ | refine opt_some (by dsimp only; exact getC_lent rfl rfl (by omega)) ?_ | refine opt_some rfl ?_ | refine ⟨_, (by simp only [nf, nl, nm, en, ints, setC_setC, Nat.reduceAdd, Nat.reduceMul]; exact rfl), ?_⟩ | refine ⟨_, pickT rfl, ?_⟩ | refine ⟨_, rfl, ?_⟩ | refine iteP_true rfl ?_ | refine iteP_false rfl ?_ | refine iteP_true ‹_› ?_ | refine iteP_false ‹_› ?_ | refine andK ?_ | refine andA ?_ | refine andT ?_); conv => whnf))
  refine iteP_intro (fun hb => ?_) (fun hb => ?_) <;> (conv => whnf)
  · have hr0 : 0 < r.length := by have := leT hb; omega
    have hE : ∃ c t, r = c :: t := by
      cases r with
      | nil => simp at hr0
      | cons c t => exact ⟨c, t, rfl⟩
    have hm0 : 0 < ms.length := by
      obtain ⟨c, t, rfl⟩ := hE
      have := hr.head
      omega
    have hN := hnx a1 h1 ha1 ms.length
    obtain ⟨r2, ⟨x2, a2, h2, rfl, ha2, hx20, -, hx21⟩, hr2⟩ := hN
    have hx21 := hx21 (by omega)
    have hP : ∃ p : Nat, x2 = p := ⟨x2.toNat, by omega⟩
    obtain ⟨p, rfl⟩ := hP
    repeat (first | ((first | refine opt_some (getC_rows rfl rfl (by omega)) ?_ | refine opt_some (by dsimp only; exact getC_lent rfl rfl (by omega)) ?_ | refine opt_some rfl ?_ | refine ⟨_, (by simp only [nf, nl, nm, en, ints, setC_setC, Nat.reduceAdd, Nat.reduceMul]; exact rfl), ?_⟩ | refine ⟨_, pickT rfl, ?_⟩ | refine ⟨_, rfl, ?_⟩ | refine iteP_true rfl ?_ | refine iteP_false rfl ?_ | refine iteP_true ‹_› ?_ | refine iteP_false ‹_› ?_ | refine andK ?_ | refine andA ?_ | refine andT ?_); conv => whnf))
    (refine ⟨_, hr2, ?_⟩; conv => whnf)
    repeat (first | ((first | refine opt_some (getC_rows rfl rfl (by omega)) ?_ | refine opt_some (by dsimp only; exact getC_lent rfl rfl (by omega)) ?_ | refine opt_some rfl ?_ | refine ⟨_, (by simp only [nf, nl, nm, en, ints, setC_setC, Nat.reduceAdd, Nat.reduceMul]; exact rfl), ?_⟩ | refine ⟨_, pickT rfl, ?_⟩ | refine ⟨_, rfl, ?_⟩ | refine iteP_true rfl ?_ | refine iteP_false rfl ?_ | refine iteP_true ‹_› ?_ | refine iteP_false ‹_› ?_ | refine andK ?_ | refine andA ?_ | refine andT ?_); conv => whnf))
    refine ⟨fun k vs => ∃ j : Nat, j ≤ ms.length ∧ (∀ q < j, canF ms ((p + q) % ms.length) r = false) ∧ vs = [.one (.ptr [.shd (.sl false 1 bs.length (bs.map u8c)), i64 a2, .c (.int .u64 h2)]), .one (.ptr [i64 ms.length, .shd (ints (natI ms))]), .one (ints (natI u)), .one (ints (natI r)), .one (i64 p), .one (i64 j), .dead] ∧ k = ms.length - j, rfl, ⟨_, 0, by omega, fun q hq => by omega, rfl, rfl⟩, ?_⟩
    rintro k vs ⟨j, hj, hall, rfl, rfl⟩
    repeat (first | ((first | refine opt_some (getC_rows rfl rfl (by omega)) ?_ | refine opt_some (by dsimp only; exact getC_lent rfl rfl (by omega)) ?_ | refine opt_some rfl ?_ | refine ⟨_, (by simp only [nf, nl, nm, en, ints, setC_setC, Nat.reduceAdd, Nat.reduceMul]; exact rfl), ?_⟩ | refine ⟨_, pickT rfl, ?_⟩ | refine ⟨_, rfl, ?_⟩ | refine iteP_true rfl ?_ | refine iteP_false rfl ?_ | refine iteP_true ‹_› ?_ | refine iteP_false ‹_› ?_ | refine andK ?_ | refine andA ?_ | refine andT ?_); conv => whnf))
    refine iteP_intro (fun hb => ?_) (fun hb => ?_) <;> (conv => whnf)
    · have hj' : j < ms.length := by have := leT hb; omega
      have hlt : (p + j) % ms.length < ms.length := Nat.mod_lt _ hm0
      have hw1 : IntKind.i64.wrap ((p : Int) + j) = ((p + j : Nat) : Int) := by rw [wrap_i64 (by omega) (by omega)]; omega
      have hw2 : IntKind.i64.wrap (((p + j : Nat) : Int).tmod ms.length) = (((p + j) % ms.length : Nat) : Int) := by
        rw [show ((p + j : Nat) : Int).tmod ms.length = (((p + j) % ms.length : Nat) : Int) from (Int.ofNat_tmod _ _).symm]
        exact i64_small (by omega)
      have hF := l03First_ret ms r ((p + j) % ms.length) (by omega) hA.lt hr (by omega) (by omega)
      have hC := frI_cases (ms := ms) (a := (p + j) % ms.length) r
      obtain ⟨b, x, hcb, hfx, hor⟩ := hC
      rw [hfx] at hF
      have hcl : b = true → ∃ i : Nat, i < r.length ∧ x = i ∧ r.take i ++ r.drop (i + 1) = r.erase ((p + j) % ms.length) := fun e => by
        rcases hor with ⟨h1, -⟩ | ⟨-, h⟩
        · rw [h1] at e; cases e
        · exact h
      have hcf : b = false → x = -1 := fun e => by
        rcases hor with ⟨-, h⟩ | ⟨h1, -⟩
        · exact h
        · rw [h1] at e; cases e
      repeat (first | ((first | refine opt_some (getC_rows rfl rfl (by omega)) ?_ | refine opt_some (by dsimp only; exact getC_lent rfl rfl (by omega)) ?_ | refine opt_some rfl ?_ | refine ⟨_, (by simp only [nf, nl, nm, en, ints, setC_setC, Nat.reduceAdd, Nat.reduceMul, hw1, hw2]; exact rfl), ?_⟩ | refine ⟨_, pickT rfl, ?_⟩ | refine ⟨_, rfl, ?_⟩ | refine iteP_true rfl ?_ | refine iteP_false rfl ?_ | refine iteP_true ‹_› ?_ | refine iteP_false ‹_› ?_ | refine andK ?_ | refine andA ?_ | refine andT ?_); conv => whnf))
      (refine ⟨_, hF, ?_⟩; conv => whnf)
      repeat (first | ((first | refine opt_some (getC_rows rfl rfl (by omega)) ?_ | refine opt_some (by dsimp only; exact getC_lent rfl rfl (by omega)) ?_ | refine opt_some rfl ?_ | refine ⟨_, (by simp only [nf, nl, nm, en, ints, setC_setC, Nat.reduceAdd, Nat.reduceMul]; exact rfl), ?_⟩ | refine ⟨_, pickT rfl, ?_⟩ | refine ⟨_, rfl, ?_⟩ | refine iteP_true rfl ?_ | refine iteP_false rfl ?_ | refine iteP_true ‹_› ?_ | refine iteP_false ‹_› ?_ | refine andK ?_ | refine andA ?_ | refine andT ?_); conv => whnf))
      refine iteP_intro (fun hb => ?_) (fun hb => ?_) <;> (conv => whnf)
      · have hbt : b = true := by
          cases b with
          | true => rfl
          | false => rw [hcf rfl] at hb; exact absurd hb (by decide)
        have hI := hcl hbt
        obtain ⟨i, hi, rfl, hdel⟩ := hI
        have hW := l03Without_ret r i (by omega) hi
        rw [hdel] at hW
        have hmem := canF_mem (hcb.trans hbt)
        have hfst2 : (u ++ [(p + j) % ms.length] = [] ∧ r.erase ((p + j) % ms.length) = w) ∨ ∃ a t, u ++ [(p + j) % ms.length] = a :: t ∧ a < ms.length ∧ canF ms a w = true := by
          right
          rcases hfst with ⟨rfl, rfl⟩ | ⟨a0, t0, rfl, h5, h6⟩
          · exact ⟨_, [], rfl, hlt, hcb.trans hbt⟩
          · exact ⟨a0, t0 ++ [(p + j) % ms.length], rfl, h5, h6⟩
        have hel := erase_length hmem
        repeat (first | ((first | refine opt_some (getC_rows rfl rfl (by omega)) ?_ | refine opt_some (by dsimp only; exact getC_lent rfl rfl (by omega)) ?_ | refine opt_some rfl ?_ | refine ⟨_, (by simp only [nf, nl, nm, en, ints, setC_setC, Nat.reduceAdd, Nat.reduceMul]; exact rfl), ?_⟩ | refine ⟨_, pickT rfl, ?_⟩ | refine ⟨_, rfl, ?_⟩ | refine iteP_true rfl ?_ | refine iteP_false rfl ?_ | refine iteP_true ‹_› ?_ | refine iteP_false ‹_› ?_ | refine andK ?_ | refine andA ?_ | refine andT ?_); conv => whnf))
        (refine ⟨_, hW, ?_⟩; conv => whnf)
        repeat (first | ((first | refine opt_some (getC_rows rfl rfl (by omega)) ?_ | refine opt_some (by dsimp only; exact getC_lent rfl rfl (by omega)) ?_ | refine opt_some rfl ?_ | refine ⟨_, (by simp only [nf, nl, nm, en, ints, setC_setC, Nat.reduceAdd, Nat.reduceMul]; exact rfl), ?_⟩ | refine ⟨_, pickT rfl, ?_⟩ | refine ⟨_, rfl, ?_⟩ | refine iteP_true rfl ?_ | refine iteP_false rfl ?_ | refine iteP_true ‹_› ?_ | refine iteP_false ‹_› ?_ | refine andK ?_ | refine andA ?_ | refine andT ?_); conv => whnf))
        refine ⟨_, ?_, u ++ [(p + j) % ms.length], r.erase ((p + j) % ms.length), a2, h2, ha2, hr.erase _, by rw [List.length_append, List.length_singleton]; omega, hfst2, ?_, rfl⟩
        · omega
        · rw [ints_natI_snoc]
          rfl
      · have hbf : canF ms ((p + j) % ms.length) r = false := by
          cases b with
          | false => exact hcb
          | true =>
            obtain ⟨i, -, rfl, -⟩ := hcl rfl
            exact absurd (leF hb) (by omega)
        repeat (first | ((first | refine opt_some (getC_rows rfl rfl (by omega)) ?_ | refine opt_some (by dsimp only; exact getC_lent rfl rfl (by omega)) ?_ | refine opt_some rfl ?_ | refine ⟨_, (by simp only [nf, nl, nm, en, ints, setC_setC, Nat.reduceAdd, Nat.reduceMul]; exact rfl), ?_⟩ | refine ⟨_, pickT rfl, ?_⟩ | refine ⟨_, rfl, ?_⟩ | refine iteP_true rfl ?_ | refine iteP_false rfl ?_ | refine iteP_true ‹_› ?_ | refine iteP_false ‹_› ?_ | refine andK ?_ | refine andA ?_ | refine andT ?_); conv => whnf))
        refine ⟨_, ?_, j + 1, hj', fun q hq => ?_, ?_, rfl⟩
        · omega
        · rcases Nat.lt_succ_iff_lt_or_eq.1 hq with h | rfl
          · exact hall q h
          · exact hbf
        · rw [wrap_succ (by omega)]
          rfl
    · exfalso
      have hjn : j = ms.length := by have := leF hb; omega
      obtain ⟨c, t, rfl⟩ := hE
      obtain ⟨q, hq, e⟩ := turn_all (show p < ms.length by omega) hr.head
      have h1 := hall q (by omega)
      rw [e] at h1
      simp [canF_head] at h1
  · repeat' (first | ((first | refine opt_some (getC_rows rfl rfl (by omega)) ?_ | refine opt_some (by dsimp only; exact getC_lent rfl rfl (by omega)) ?_ | refine opt_some rfl ?_ | refine ⟨_, (by simp only [nf, nl, nm, en, ints, setC_setC, Nat.reduceAdd, Nat.reduceMul]; exact rfl), ?_⟩ | refine ⟨_, pickT rfl, ?_⟩ | refine ⟨_, rfl, ?_⟩ | refine iteP_true rfl ?_ | refine iteP_false rfl ?_ | refine iteP_true ‹_› ?_ | refine iteP_false ‹_› ?_ | refine andK ?_ | refine andA ?_ | refine andT ?_); conv => whnf) | (refine iteP_intro (fun hb => ?_) (fun hb => ?_) <;> (conv => whnf)))
    refine ⟨u, a1, h1, rfl, ha1, by omega, fun hne => ?_⟩
    rcases hfst with ⟨-, rfl⟩ | h
    · have h0 : r = [] := List.length_eq_zero_iff.1 (by have := leF hb; omega)
      exact absurd h0 hne
    · exact h
end Go.Proofs.YtpopepcmfanegaaDoor
