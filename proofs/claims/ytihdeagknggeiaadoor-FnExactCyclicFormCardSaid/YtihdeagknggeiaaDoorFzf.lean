import Derived.Test.YtihdeagknggeiaaDoorFze
set_option autoImplicit false
set_option linter.unusedSimpArgs false
set_option linter.unusedVariables false
namespace Go.Proofs.YtihdeagknggeiaaDoor
open Go.Den
theorem cjI_has {ms r : List Nat} {out : List (List Nat)} : ∀ n, (cjI ms r n out).length ≤ 1000 → ∀ a < n, canF ms a r = true → rotN ms r a ∈ cjI ms r n out
  | 0, _, a, h, _ => by omega
  | n + 1, hl, a, ha, hc => by
    rw [cjI] at hl ⊢
    by_cases hs : 1000 < (cjI ms r n out).length
    · rw [if_pos hs] at hl
      omega
    · rw [if_neg hs] at hl ⊢
      have hold : a < n → rotN ms r a ∈ cjI ms r n out := fun h => cjI_has n (by omega) a h hc
      by_cases e : a = n
      · subst e
        rw [hc, Bool.true_and]
        by_cases hm : rotN ms r a ∈ cjI ms r a out
        · rw [if_neg (by simp [hm])]
          exact hm
        · rw [if_pos (by simp [hm])]
          exact List.mem_append_right _ (by simp)
      · have h1 := hold (by omega)
        split
        · exact List.mem_append_left _ h1
        · exact h1
/-- A list that rotations do not leave. -/
def ClsR (ms : List Nat) (S : List (List Nat)) : Prop := ∀ r ∈ S, ∀ a < ms.length, canF ms a r = true → rotN ms r a ∈ S
theorem cjF_closed {ms : List Nat} : ∀ (f i : Nat) {out : List (List Nat)}, 1001 ≤ f + i → i ≤ out.length → (∀ j < i, ∀ a < ms.length, canF ms a (out.getD j []) = true → rotN ms (out.getD j []) a ∈ out) → (cjF ms f i out).length ≤ 1000 → ClsR ms (cjF ms f i out)
  | 0, i, out, hf, hi, _, hl => by
    rw [cjF] at hl
    omega
  | f + 1, i, out, hf, hi, hd, hl => by
    rw [cjF] at hl ⊢
    by_cases hc : i < out.length ∧ ¬ 1000 < out.length
    · rw [if_pos hc] at hl ⊢
      obtain ⟨t, ht⟩ := cjI_pre (ms := ms) (r := out.getD i []) (out := out) ms.length
      have hlen := cjF_len (ms := ms) f (i + 1) (out := cjI ms (out.getD i []) ms.length out)
      have hget : ∀ j, j < out.length → (cjI ms (out.getD i []) ms.length out).getD j [] = out.getD j [] := fun j hj => by
        rw [ht, List.getD_eq_getElem?_getD, List.getElem?_append_left hj, List.getD_eq_getElem?_getD]
      refine cjF_closed f (i + 1) (by omega) (by rw [ht, List.length_append]; omega) (fun j hj a ha hca => ?_) hl
      rw [hget j (by omega)] at hca ⊢
      by_cases e : j = i
      · subst e
        exact cjI_has ms.length (by omega) a ha hca
      · have := hd j (by omega) a ha hca
        rw [ht]
        exact List.mem_append_left _ this
    · rw [if_neg hc] at hl ⊢
      intro r hr a ha hca
      obtain ⟨j, hj, e⟩ := List.getElem_of_mem hr
      have hji : j < i := by
        have : ¬ i < out.length := fun h => hc ⟨h, by omega⟩
        omega
      have := hd j hji a ha
      rw [List.getD_eq_getElem?_getD, List.getElem?_eq_getElem hj, Option.getD_some, e] at this
      exact this hca
theorem cjW_closed {ms w : List Nat} (h : (cjW ms w).length ≤ 1000) : ClsR ms (cjW ms w) := cjF_closed 1001 0 (by omega) (by omega) (fun j hj => by omega) h
theorem cjW_head {ms w : List Nat} : nform ms w ∈ cjW ms w := by
  have : ∀ (f i : Nat) (out : List (List Nat)), nform ms w ∈ out → nform ms w ∈ cjF ms f i out := by
    intro f
    induction f with
    | zero => intro i out h; exact h
    | succ f ih =>
      intro i out h
      rw [cjF]
      split
      · obtain ⟨t, ht⟩ := cjI_pre (ms := ms) (r := out.getD i []) (out := out) ms.length
        exact ih _ _ (by rw [ht]; exact List.mem_append_left _ h)
      · exact h
  exact this 1001 0 _ (by simp)
theorem cls_rotZ {ms : List Nat} {S : List (List Nat)} (h : ClsR ms S) : ∀ (z : List Nat) {r : List Nat}, r ∈ S → Wd ms z → okZ ms r z = true → rotZ ms r z ∈ S
  | [], _, hr, _, _ => hr
  | a :: z, r, hr, hz, ho => by
    rw [okZ, Bool.and_eq_true] at ho
    exact cls_rotZ h z (h r hr a hz.head ho.1) hz.tail ho.2
theorem nform_nform {ms w : List Nat} (hA : Alpha ms) (hw : Wd ms w) : nform ms (nform ms w) = nform ms w := nform_congr hA (nform_wd hA hw) hw (nform_eqv hA hw)
theorem rotZ_norm {ms : List Nat} (hA : Alpha ms) : ∀ (z : List Nat) {r : List Nat}, Wd ms r → Wd ms z → okZ ms r z = true → nform ms r = r → nform ms (rotZ ms r z) = rotZ ms r z
  | [], _, _, _, _, h => h
  | a :: z, r, hr, hz, ho, _ => by
    rw [okZ, Bool.and_eq_true] at ho
    exact rotZ_norm hA z (rotN_wd hA hr hz.head) hz.tail ho.2 (nform_nform hA (rot_wd hr hz.head))
/-- Rotations can be taken back. -/
theorem cls_back {ms : List Nat} (hA : Alpha ms) {S : List (List Nat)} (h : ClsR ms S) : ∀ (z : List Nat) {r : List Nat}, Wd ms r → Wd ms z → okZ ms r z = true → nform ms r = r → rotZ ms r z ∈ S → r ∈ S
  | [], _, _, _, _, _, hm => hm
  | a :: z, r, hr, hz, ho, hn, hm => by
    rw [okZ, Bool.and_eq_true] at ho
    have hrw := rotN_wd hA hr hz.head
    have hrn := nform_nform hA (rot_wd hr hz.head)
    have h1 : rotN ms r a ∈ S := cls_back hA h z hrw hz.tail ho.2 hrn hm
    have hte := hr.erase a
    have h2 : Eqv ms (rotN ms r a) (r.erase a ++ [a]) := nform_eqv hA (rot_wd hr hz.head)
    obtain ⟨h3, h4⟩ := rot_round hA (r.erase a) [a] hte (.cons hz.head (.nil ms)) hrw h2
    have h5 := cls_rotZ h (r.erase a) h1 hte h3
    obtain ⟨h6, -⟩ := rotZ_wd hA (r.erase a) hrw hte h3
    have h7 := rotZ_norm hA (r.erase a) hrw hte h3 hrn
    have h8 : Eqv ms (rotZ ms (rotN ms r a) (r.erase a)) r := h4.trans (Eqv.cons_erase hA ho.1).symm
    have h9 := nform_congr hA h6 hr h8
    rw [h7, hn] at h9
    rwa [h9] at h5
theorem nodup_len {α : Type} [DecidableEq α] : ∀ {l s : List α}, l.Nodup → (∀ x ∈ l, x ∈ s) → l.length ≤ s.length
  | [], _, _, _ => by simp
  | x :: l, s, hn, hs => by
    have hx := hs x (by simp)
    have h1 : l.length ≤ (s.erase x).length := nodup_len (List.nodup_cons.1 hn).2 fun y hy => by
      refine (List.mem_erase_of_ne fun e => ?_).2 (hs y (List.mem_cons_of_mem _ hy))
      subst e
      exact (List.nodup_cons.1 hn).1 hy
    rw [List.length_erase_of_mem hx] at h1
    have := List.length_pos_of_mem hx
    rw [List.length_cons]
    omega
/-- Being conjugate does not depend on the order. -/
theorem conj_sym {ms u v : List Nat} (hA : Alpha ms) (hu : Wd ms u) (hs : (cjW ms u).length ≤ 1000) (hm : nform ms v ∈ cjW ms u) : (cjW ms v).length ≤ 1000 ∧ nform ms u ∈ cjW ms v := by
  have hc := cjW_closed hs
  have hsub : ∀ x ∈ cjW ms v, x ∈ cjW ms u := fun x hx => by
    rw [← pcW_fst] at hx
    obtain ⟨p, hp, rfl⟩ := List.mem_map.1 hx
    obtain ⟨h1, h2, h3⟩ := pcW_all ms v p hp
    rw [← h2]
    exact cls_rotZ hc p.2 hm h3 h1
  have hl : (cjW ms v).length ≤ 1000 := Nat.le_trans (nodup_len (cjW_nodup ms v) hsub) hs
  refine ⟨hl, ?_⟩
  have hm2 := hm
  rw [← pcW_fst] at hm2
  obtain ⟨p, hp, e⟩ := List.mem_map.1 hm2
  obtain ⟨h1, h2, h3⟩ := pcW_all ms u p hp
  refine cls_back hA (cjW_closed hl) p.2 (nform_wd hA hu) h3 h1 (nform_nform hA hu) ?_
  rw [h2, e]
  exact cjW_head
/-- The first conjugates are the shortest words' ones: the words do not grow faster than their indices. -/
theorem pcW_zero (ms w : List Nat) : ∀ (h : 0 < (pcW ms w).length), (pcW ms w)[0] = (nform ms w, []) := by
  have hL : ∀ (r b M : List Nat) (out : List (List Nat × List Nat)), ∃ t, pcL ms r b M out = out ++ t := by
    intro r b M
    induction M with
    | nil => intro out; exact ⟨[], by simp [pcL]⟩
    | cons a M ih =>
      intro out
      show ∃ t, pcL ms r b M (if 1000 < out.length then out else if rotN ms r a ∈ out.map (·.1) then out else out ++ [(rotN ms r a, b ++ [a])]) = out ++ t
      obtain ⟨t, ht⟩ := ih (if 1000 < out.length then out else if rotN ms r a ∈ out.map (·.1) then out else out ++ [(rotN ms r a, b ++ [a])])
      rw [ht]
      split
      · exact ⟨t, rfl⟩
      · split
        · exact ⟨t, rfl⟩
        · exact ⟨_, List.append_assoc ..⟩
  have hF : ∀ (f i : Nat) (out : List (List Nat × List Nat)), ∃ t, pcF ms f i out = out ++ t := by
    intro f
    induction f with
    | zero => intro i out; exact ⟨[], by simp [pcF]⟩
    | succ f ih =>
      intro i out
      rw [pcF]
      split
      · obtain ⟨t, ht⟩ := hL (out.getD i ([], [])).1 (out.getD i ([], [])).2 (fsts ms (out.getD i ([], [])).1) out
        rw [ht]
        obtain ⟨t2, ht2⟩ := ih (i + 1) (out ++ t)
        rw [ht2]
        exact ⟨_, List.append_assoc ..⟩
      · exact ⟨[], by simp⟩
  intro h
  obtain ⟨t, ht⟩ := hF 1001 0 [(nform ms w, [])]
  have : pcW ms w = (nform ms w, []) :: t := ht
  simp [this]
end Go.Proofs.YtihdeagknggeiaaDoor
