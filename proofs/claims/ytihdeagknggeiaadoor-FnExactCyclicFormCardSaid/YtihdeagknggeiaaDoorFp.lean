import Derived.Test.YtihdeagknggeiaaDoorFo
set_option autoImplicit false
set_option linter.unusedSimpArgs false
set_option linter.unusedVariables false
namespace Go.Proofs.YtihdeagknggeiaaDoor
open Go.Den
/-- The count of a class, with what it remembers. -/
def goC (ms : List Nat) : Nat → List Nat → MemoN → Nat × MemoN
  | 0, _, es => (1, es)
  | k + 1, r, es => match findG (ckey r) es with
    | some v => (v, es)
    | none =>
      let st := (fsts ms r).foldl (fun (st : Nat × MemoN) a => (min (st.1 + (goC ms k (r.erase a) st.2).1) 1000000000000001, (goC ms k (r.erase a) st.2).2)) (0, es)
      (st.1, addG (ckey r) st.1 st.2)
def goCL (ms : List Nat) (k : Nat) (r : List Nat) (es : MemoN) (i : Nat) : Nat × MemoN := ((fsts ms r).take i).foldl (fun (st : Nat × MemoN) a => (min (st.1 + (goC ms k (r.erase a) st.2).1) 1000000000000001, (goC ms k (r.erase a) st.2).2)) (0, es)
theorem goCL_succ {ms : List Nat} {k : Nat} {r : List Nat} {es : MemoN} {i : Nat} (hi : i < (fsts ms r).length) : goCL ms k r es (i + 1) = (min ((goCL ms k r es i).1 + (goC ms k (r.erase (fsts ms r)[i]) (goCL ms k r es i).2).1) 1000000000000001, (goC ms k (r.erase (fsts ms r)[i]) (goCL ms k r es i).2).2) := by
  unfold goCL
  rw [List.take_succ_eq_append_getElem hi, List.foldl_append]
  rfl
theorem goC_succ (ms : List Nat) (k : Nat) (r : List Nat) (es : MemoN) : goC ms (k + 1) r es = match findG (ckey r) es with
    | some v => (v, es)
    | none => ((goCL ms k r es (fsts ms r).length).1, addG (ckey r) (goCL ms k r es (fsts ms r).length).1 (goCL ms k r es (fsts ms r).length).2) := by
  unfold goCL
  rw [List.take_length]
  rfl
def KnownC (ms w : List Nat) (es : MemoN) : Prop := ∀ e ∈ es, ∀ u r, Wd ms r → r.length ≤ 24 → Eqv ms w (u ++ r) → ckey r = e.1 → e.2 = min (clsW ms r) 1000000000000001
theorem sum_filter (p : Nat → Bool) (f : Nat → Nat) : ∀ n, (((List.range n).filter p).map f).sum = sumN (fun a => if p a then f a else 0) n
  | 0 => rfl
  | n + 1 => by
    rw [List.range_succ, List.filter_append, List.map_append, List.sum_append, sum_filter p f n]
    show _ = sumN _ n + if p n = true then f n else 0
    congr 1
    by_cases h : p n = true <;> simp [h]
theorem fsts_mem {ms w : List Nat} {a : Nat} : a ∈ fsts ms w ↔ a < ms.length ∧ canF ms a w = true := by
  unfold fsts
  rw [List.mem_filter, List.mem_range]
theorem goC_known {ms w : List Nat} (hA : Alpha ms) : ∀ (k : Nat), k ≤ 24 → ∀ (r : List Nat) (es : MemoN), r.length = k → Wd ms r → (∃ u, Eqv ms w (u ++ r)) → KnownC ms w es →
    (goC ms k r es).1 = min (clsW ms r) 1000000000000001 ∧ KnownC ms w (goC ms k r es).2
  | 0, _, r, es, hl, _, _, hk => by
    obtain rfl := List.length_eq_zero_iff.1 hl
    exact ⟨rfl, hk⟩
  | k + 1, hk24, r, es, hl, hr, ⟨u, hu⟩, hk => by
    have hloop : ∀ i, i ≤ (fsts ms r).length → (goCL ms k r es i).1 = min ((((fsts ms r).take i).map fun a => clsW ms (r.erase a)).sum) 1000000000000001 ∧ KnownC ms w (goCL ms k r es i).2 := fun i => by
      induction i with
      | zero => intro _; exact ⟨by simp [goCL], hk⟩
      | succ i ih =>
        intro hi
        obtain ⟨h1, h2⟩ := ih (by omega)
        have hm : (fsts ms r)[i] ∈ fsts ms r := List.getElem_mem (by omega)
        obtain ⟨h3, h4⟩ := fsts_mem.1 hm
        obtain ⟨h5, h6⟩ := goC_known (w := w) hA k (by omega) (r.erase (fsts ms r)[i]) (goCL ms k r es i).2 (by rw [erase_length (canF_mem h4), hl]; rfl) (hr.erase _)
          ⟨u ++ [(fsts ms r)[i]], by
            have := hu.trans ((Eqv.refl ms u).append (Eqv.cons_erase hA h4))
            rw [List.append_assoc]
            exact this⟩ h2
        rw [goCL_succ (by omega)]
        refine ⟨?_, h6⟩
        simp only
        rw [h5, h1, List.take_succ_eq_append_getElem (by omega), List.map_append, List.sum_append]
        simp only [List.map_cons, List.map_nil, List.sum_cons, List.sum_nil, Nat.add_zero]
        omega
    obtain ⟨h1, h2⟩ := hloop _ (Nat.le_refl _)
    rw [goC_succ]
    cases hf : findG (ckey r) es with
    | some v => exact ⟨hk _ (findG_mem hf) u r hr (by omega) hu rfl, hk⟩
    | none =>
      have hc : clsW ms r = (((fsts ms r).map fun a => clsW ms (r.erase a))).sum := by
        rw [clsW_cons (fun e => by rw [e] at hl; simp at hl)]
        exact (sum_filter _ _ _).symm
      rw [List.take_length, ← hc] at h1
      refine ⟨h1, fun e he u' r' hr' hl' hu' hk' => ?_⟩
      rcases addG_mem he with rfl | he
      · simp only at hk' ⊢
        have hcnt := ckey_inj hr hr' (by omega) (by omega) hk'.symm
        rw [h1, clsW_congr hA hr hr' (sfx_eqv hu hu' hcnt)]
      · exact h2 e he u' r' hr' hl' hu' hk'
theorem goCL_known {ms w : List Nat} (hA : Alpha ms) {k : Nat} (hk24 : k < 24) {r : List Nat} {es : MemoN} (hl : r.length = k + 1) (hr : Wd ms r) (hu : ∃ u, Eqv ms w (u ++ r)) (hk : KnownC ms w es) : ∀ i, i ≤ (fsts ms r).length → (goCL ms k r es i).1 ≤ 1000000000000001 ∧ KnownC ms w (goCL ms k r es i).2
  | 0, _ => ⟨by simp [goCL], hk⟩
  | i + 1, hi => by
    obtain ⟨h1, h2⟩ := goCL_known hA hk24 hl hr hu hk i (by omega)
    have hm : (fsts ms r)[i] ∈ fsts ms r := List.getElem_mem (by omega)
    obtain ⟨h3, h4⟩ := fsts_mem.1 hm
    obtain ⟨u, hu⟩ := hu
    obtain ⟨h5, h6⟩ := goC_known (w := w) hA k (by omega) (r.erase (fsts ms r)[i]) (goCL ms k r es i).2 (by rw [erase_length (canF_mem h4), hl]; rfl) (hr.erase _)
      ⟨u ++ [(fsts ms r)[i]], by
        have := hu.trans ((Eqv.refl ms u).append (Eqv.cons_erase hA h4))
        rw [List.append_assoc]
        exact this⟩ h2
    rw [goCL_succ (by omega)]
    exact ⟨Nat.min_le_right _ _, h6⟩
theorem sfx_erase {ms w r : List Nat} (hA : Alpha ms) {a : Nat} (hu : ∃ u, Eqv ms w (u ++ r)) (h : canF ms a r = true) : ∃ u, Eqv ms w (u ++ r.erase a) := by
  obtain ⟨u, hu⟩ := hu
  refine ⟨u ++ [a], ?_⟩
  rw [List.append_assoc]
  exact hu.trans ((Eqv.refl ms u).append (Eqv.cons_erase hA h))
end Go.Proofs.YtihdeagknggeiaaDoor
