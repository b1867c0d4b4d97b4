import Derived.Test.YtihdeagknggeiaaDoorFzd
set_option autoImplicit false
set_option linter.unusedSimpArgs false
set_option linter.unusedVariables false
namespace Go.Proofs.YtihdeagknggeiaaDoor
open Go.Den
/-- Rotations one after the other. -/
def rotZ (ms : List Nat) : List Nat → List Nat → List Nat
  | r, [] => r
  | r, a :: z => rotZ ms (rotN ms r a) z
def okZ (ms : List Nat) : List Nat → List Nat → Bool
  | _, [] => true
  | r, a :: z => canF ms a r && okZ ms (rotN ms r a) z
theorem rotZ_snoc (ms : List Nat) (a : Nat) : ∀ (z r : List Nat), rotZ ms r (z ++ [a]) = rotN ms (rotZ ms r z) a
  | [], _ => rfl
  | _ :: z, r => rotZ_snoc ms a z _
theorem okZ_snoc (ms : List Nat) (a : Nat) : ∀ (z r : List Nat), okZ ms r (z ++ [a]) = (okZ ms r z && canF ms a (rotZ ms r z))
  | [], r => by simp [okZ, rotZ]
  | c :: z, r => by
    show (canF ms c r && okZ ms (rotN ms r c) (z ++ [a])) = _
    rw [okZ_snoc ms a z]
    show _ = ((canF ms c r && okZ ms (rotN ms r c) z) && _)
    rw [Bool.and_assoc]
    rfl
/-- What holds of conjugates with their words. -/
structure PcG (ms w : List Nat) (p : List Nat × List Nat) : Prop where
  ok : okZ ms (nform ms w) p.2 = true
  rot : rotZ ms (nform ms w) p.2 = p.1
  wd : Wd ms p.2
theorem PcG.snoc {ms w : List Nat} {r b : List Nat} {a : Nat} (h : PcG ms w (r, b)) (ha : a < ms.length) (hc : canF ms a r = true) : PcG ms w (rotN ms r a, b ++ [a]) where
  ok := by
    rw [okZ_snoc, h.rot, hc, h.ok]
    rfl
  rot := by
    rw [rotZ_snoc, h.rot]
  wd := h.wd.append (.cons ha (.nil ms))
theorem pcL_all {ms w r b : List Nat} (h : PcG ms w (r, b)) : ∀ (M : List Nat), (∀ a ∈ M, a < ms.length ∧ canF ms a r = true) → ∀ {out : List (List Nat × List Nat)}, (∀ p ∈ out, PcG ms w p) → ∀ p ∈ pcL ms r b M out, PcG ms w p
  | [], _, _, ho => ho
  | a :: M, hM, out, ho => by
    show ∀ p ∈ pcL ms r b M (if 1000 < out.length then out else if rotN ms r a ∈ out.map (·.1) then out else out ++ [(rotN ms r a, b ++ [a])]), _
    refine pcL_all h M (fun c hc => hM c (List.mem_cons_of_mem _ hc)) ?_
    split
    · exact ho
    · split
      · exact ho
      · intro p hp
        rcases List.mem_append.1 hp with hp | hp
        · exact ho p hp
        · rw [List.mem_singleton.1 hp]
          exact h.snoc (hM a (by simp)).1 (hM a (by simp)).2
theorem pcF_all {ms w : List Nat} : ∀ (f i : Nat) {out : List (List Nat × List Nat)}, (∀ p ∈ out, PcG ms w p) → ∀ p ∈ pcF ms f i out, PcG ms w p
  | 0, _, _, ho => ho
  | f + 1, i, out, ho => by
    rw [pcF]
    split
    · rename_i h
      refine pcF_all f (i + 1) (pcL_all ?_ _ (fun a ha => fsts_mem.1 ha) ho)
      have : out.getD i ([], []) ∈ out := by
        rw [List.getD_eq_getElem?_getD, List.getElem?_eq_getElem h.1]
        exact List.getElem_mem h.1
      exact ho _ this
    · exact ho
theorem pcW_all (ms w : List Nat) : ∀ p ∈ pcW ms w, PcG ms w p := pcF_all 1001 0 fun p hp => by
  rw [List.mem_singleton.1 hp]
  exact ⟨rfl, rfl, .nil ms⟩
theorem rot_eqv {ms r : List Nat} {a : Nat} (hA : Alpha ms) (hr : Wd ms r) (ha : a < ms.length) (hc : canF ms a r = true) : Eqv ms (r ++ [a]) (a :: rotN ms r a) := by
  have h1 : Eqv ms (rotN ms r a) (r.erase a ++ [a]) := nform_eqv hA (rot_wd hr ha)
  have h2 : Eqv ms (r ++ [a]) ((a :: r.erase a) ++ [a]) := (Eqv.cons_erase hA hc).append (.refl _ _)
  exact h2.trans ((Eqv.refl ms [a]).append h1.symm)
/-- u z = z v -/
theorem rotZ_eqv {ms : List Nat} (hA : Alpha ms) : ∀ (z : List Nat) {r : List Nat}, Wd ms r → Wd ms z → okZ ms r z = true → Eqv ms (r ++ z) (z ++ rotZ ms r z)
  | [], r, _, _, _ => by
    show Eqv ms (r ++ []) r
    rw [List.append_nil]
    exact .refl _ _
  | a :: z, r, hr, hz, ho => by
    rw [okZ, Bool.and_eq_true] at ho
    have h1 := rot_eqv hA hr hz.head ho.1
    have h2 := rotZ_eqv hA z (rotN_wd hA hr hz.head) hz.tail ho.2
    have h3 : Eqv ms (r ++ a :: z) ((a :: rotN ms r a) ++ z) := by
      have := h1.append (.refl ms z)
      rwa [List.append_assoc] at this
    exact h3.trans ((Eqv.refl ms [a]).append h2)
theorem rotZ_wd {ms : List Nat} (hA : Alpha ms) : ∀ (z : List Nat) {r : List Nat}, Wd ms r → Wd ms z → okZ ms r z = true → Wd ms (rotZ ms r z) ∧ (rotZ ms r z).length = r.length
  | [], r, hr, _, _ => ⟨hr, rfl⟩
  | a :: z, r, hr, hz, ho => by
    rw [okZ, Bool.and_eq_true] at ho
    obtain ⟨h1, h2⟩ := rotZ_wd hA z (rotN_wd hA hr hz.head) hz.tail ho.2
    exact ⟨h1, h2.trans (rotN_len hA hr hz.head (canF_mem ho.1))⟩
/-- Rotating respects equivalence. -/
theorem rotN_congr {ms r s : List Nat} {a : Nat} (hA : Alpha ms) (hr : Wd ms r) (hs : Wd ms s) (h : Eqv ms r s) (ha : a < ms.length) (hc : canF ms a r = true) : rotN ms r a = rotN ms s a := by
  have hc' : canF ms a s = true := by rw [← h.front hA ha]; exact hc
  exact nform_congr hA (rot_wd hr ha) (rot_wd hs ha) ((h.erase hA hc hc').append (.refl _ _))
/-- Rotating by all letters but the last one leads back. -/
theorem rot_round {ms : List Nat} (hA : Alpha ms) : ∀ (t d : List Nat) {r : List Nat}, Wd ms t → Wd ms d → Wd ms r → Eqv ms r (t ++ d) → okZ ms r t = true ∧ Eqv ms (rotZ ms r t) (d ++ t)
  | [], d, r, _, _, _, h => by
    rw [List.append_nil]
    exact ⟨rfl, h⟩
  | c :: t, d, r, ht, hd, hr, h => by
    have hc : canF ms c r = true := by rw [h.front hA ht.head]; exact canF_head ..
    have hw2 : Wd ms (c :: (t ++ d)) := .cons ht.head (ht.tail.append hd)
    have h1 : rotN ms r c = rotN ms (c :: (t ++ d)) c := rotN_congr hA hr hw2 h ht.head hc
    have h2 : Eqv ms (rotN ms r c) (t ++ (d ++ [c])) := by
      have hh : rotN ms (c :: (t ++ d)) c = nform ms (t ++ (d ++ [c])) := by
        unfold rotN
        rw [List.erase_cons_head, List.append_assoc]
      rw [h1, hh]
      exact nform_eqv hA (ht.tail.append (hd.append (.cons ht.head (.nil ms))))
    obtain ⟨h3, h4⟩ := rot_round hA t (d ++ [c]) ht.tail (hd.append (.cons ht.head (.nil ms))) (rotN_wd hA hr ht.head) h2
    refine ⟨?_, ?_⟩
    · rw [okZ, hc, h3]
      rfl
    · rw [List.append_assoc] at h4
      exact h4
end Go.Proofs.YtihdeagknggeiaaDoor
