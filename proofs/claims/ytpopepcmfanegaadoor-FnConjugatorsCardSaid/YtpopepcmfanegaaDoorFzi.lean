import Derived.Test.YtpopepcmfanegaaDoorFzh
set_option autoImplicit false
set_option linter.unusedSimpArgs false
set_option linter.unusedVariables false
namespace Go.Proofs.YtpopepcmfanegaaDoor
open Go.Den
/-- Rotations one after the other. -/
def rotZ (ms : List Nat) : List Nat → List Nat → List Nat
  | r, [] => r
  | r, a :: z => rotZ ms (rotN ms r a) z
def okZ (ms : List Nat) : List Nat → List Nat → Bool
  | _, [] => true
  | r, a :: z => canF ms a r && okZ ms (rotN ms r a) z
theorem rotZ_snoc (ms : List Nat) (a : Nat) : ∀ (z r : List Nat), rotZ ms r (z ++ [a]) = rotN ms (rotZ ms r z) a
  | [], _ => rfl
  | _ :: z, r => rotZ_snoc ms a z _
theorem okZ_snoc (ms : List Nat) (a : Nat) : ∀ (z r : List Nat), okZ ms r (z ++ [a]) = (okZ ms r z && canF ms a (rotZ ms r z))
  | [], r => by simp [okZ, rotZ]
  | c :: z, r => by
    show (canF ms c r && okZ ms (rotN ms r c) (z ++ [a])) = _
    rw [okZ_snoc ms a z]
    show _ = ((canF ms c r && okZ ms (rotN ms r c) z) && _)
    rw [Bool.and_assoc]
    rfl
/-- What holds of conjugates with their words. -/
structure PcG (ms w : List Nat) (p : List Nat × List Nat) : Prop where
  ok : okZ ms (nform ms w) p.2 = true
  rot : rotZ ms (nform ms w) p.2 = p.1
  wd : Wd ms p.2
theorem PcG.snoc {ms w : List Nat} {r b : List Nat} {a : Nat} (h : PcG ms w (r, b)) (ha : a < ms.length) (hc : canF ms a r = true) : PcG ms w (rotN ms r a, b ++ [a]) where
  ok := by
    rw [okZ_snoc, h.rot, hc, h.ok]
    rfl
  rot := by
    rw [rotZ_snoc, h.rot]
  wd := h.wd.append (.cons ha (.nil ms))
theorem pcL_all {ms w r b : List Nat} (h : PcG ms w (r, b)) : ∀ (M : List Nat), (∀ a ∈ M, a < ms.length ∧ canF ms a r = true) → ∀ {out : List (List Nat × List Nat)}, (∀ p ∈ out, PcG ms w p) → ∀ p ∈ pcL ms r b M out, PcG ms w p
  | [], _, _, ho => ho
  | a :: M, hM, out, ho => by
    show ∀ p ∈ pcL ms r b M (if 1000 < out.length then out else if rotN ms r a ∈ out.map (·.1) then out else out ++ [(rotN ms r a, b ++ [a])]), _
    refine pcL_all h M (fun c hc => hM c (List.mem_cons_of_mem _ hc)) ?_
    split
    · exact ho
    · split
      · exact ho
      · intro p hp
        rcases List.mem_append.1 hp with hp | hp
        · exact ho p hp
        · rw [List.mem_singleton.1 hp]
          exact h.snoc (hM a (by simp)).1 (hM a (by simp)).2
theorem pcF_all {ms w : List Nat} : ∀ (f i : Nat) {out : List (List Nat × List Nat)}, (∀ p ∈ out, PcG ms w p) → ∀ p ∈ pcF ms f i out, PcG ms w p
  | 0, _, _, ho => ho
  | f + 1, i, out, ho => by
    rw [pcF]
    split
    · rename_i h
      refine pcF_all f (i + 1) (pcL_all ?_ _ (fun a ha => fsts_mem.1 ha) ho)
      have : out.getD i ([], []) ∈ out := by
        rw [List.getD_eq_getElem?_getD, List.getElem?_eq_getElem h.1]
        exact List.getElem_mem h.1
      exact ho _ this
    · exact ho
theorem pcW_all (ms w : List Nat) : ∀ p ∈ pcW ms w, PcG ms w p := pcF_all 1001 0 fun p hp => by
  rw [List.mem_singleton.1 hp]
  exact ⟨rfl, rfl, .nil ms⟩
theorem rot_eqv {ms r : List Nat} {a : Nat} (hA : Alpha ms) (hr : Wd ms r) (ha : a < ms.length) (hc : canF ms a r = true) : Eqv ms (r ++ [a]) (a :: rotN ms r a) := by
  have h1 : Eqv ms (rotN ms r a) (r.erase a ++ [a]) := nform_eqv hA (rot_wd hr ha)
  have h2 : Eqv ms (r ++ [a]) ((a :: r.erase a) ++ [a]) := (Eqv.cons_erase hA hc).append (.refl _ _)
  exact h2.trans ((Eqv.refl ms [a]).append h1.symm)
/-- u z = z v -/
theorem rotZ_eqv {ms : List Nat} (hA : Alpha ms) : ∀ (z : List Nat) {r : List Nat}, Wd ms r → Wd ms z → okZ ms r z = true → Eqv ms (r ++ z) (z ++ rotZ ms r z)
  | [], r, _, _, _ => by
    show Eqv ms (r ++ []) r
    rw [List.append_nil]
    exact .refl _ _
  | a :: z, r, hr, hz, ho => by
    rw [okZ, Bool.and_eq_true] at ho
    have h1 := rot_eqv hA hr hz.head ho.1
    have h2 := rotZ_eqv hA z (rotN_wd hA hr hz.head) hz.tail ho.2
    have h3 : Eqv ms (r ++ a :: z) ((a :: rotN ms r a) ++ z) := by
      have := h1.append (.refl ms z)
      rwa [List.append_assoc] at this
    exact h3.trans ((Eqv.refl ms [a]).append h2)
theorem rotZ_wd {ms : List Nat} (hA : Alpha ms) : ∀ (z : List Nat) {r : List Nat}, Wd ms r → Wd ms z → okZ ms r z = true → Wd ms (rotZ ms r z) ∧ (rotZ ms r z).length = r.length
  | [], r, hr, _, _ => ⟨hr, rfl⟩
  | a :: z, r, hr, hz, ho => by
    rw [okZ, Bool.and_eq_true] at ho
    obtain ⟨h1, h2⟩ := rotZ_wd hA z (rotN_wd hA hr hz.head) hz.tail ho.2
    exact ⟨h1, h2.trans (rotN_len hA hr hz.head (canF_mem ho.1))⟩
/-- Rotating respects equivalence. -/
theorem rotN_congr {ms r s : List Nat} {a : Nat} (hA : Alpha ms) (hr : Wd ms r) (hs : Wd ms s) (h : Eqv ms r s) (ha : a < ms.length) (hc : canF ms a r = true) : rotN ms r a = rotN ms s a := by
  have hc' : canF ms a s = true := by rw [← h.front hA ha]; exact hc
  exact nform_congr hA (rot_wd hr ha) (rot_wd hs ha) ((h.erase hA hc hc').append (.refl _ _))
/-- Rotating by all letters but the last one leads back. -/
theorem rot_round {ms : List Nat} (hA : Alpha ms) : ∀ (t d : List Nat) {r : List Nat}, Wd ms t → Wd ms d → Wd ms r → Eqv ms r (t ++ d) → okZ ms r t = true ∧ Eqv ms (rotZ ms r t) (d ++ t)
  | [], d, r, _, _, _, h => by
    rw [List.append_nil]
    exact ⟨rfl, h⟩
  | c :: t, d, r, ht, hd, hr, h => by
    have hc : canF ms c r = true := by rw [h.front hA ht.head]; exact canF_head ..
    have hw2 : Wd ms (c :: (t ++ d)) := .cons ht.head (ht.tail.append hd)
    have h1 : rotN ms r c = rotN ms (c :: (t ++ d)) c := rotN_congr hA hr hw2 h ht.head hc
    have h2 : Eqv ms (rotN ms r c) (t ++ (d ++ [c])) := by
      have hh : rotN ms (c :: (t ++ d)) c = nform ms (t ++ (d ++ [c])) := by
        unfold rotN
        rw [List.erase_cons_head, List.append_assoc]
      rw [h1, hh]
      exact nform_eqv hA (ht.tail.append (hd.append (.cons ht.head (.nil ms))))
    obtain ⟨h3, h4⟩ := rot_round hA t (d ++ [c]) ht.tail (hd.append (.cons ht.head (.nil ms))) (rotN_wd hA hr ht.head) h2
    refine ⟨?_, ?_⟩
    · rw [okZ, hc, h3]
      rfl
    · rw [List.append_assoc] at h4
      exact h4
set_option maxHeartbeats 4000000 in
set_option maxRecDepth 100000 in
theorem rotBy_ret (ms w z : List Nat) (hl : ms.length ≤ 8) (hA : Alpha ms) (hok : alphaOk ms.length (natI ms) = true) (hw : Wd ms w) (hz : Wd ms z) (hx : w.length ≤ 24) (hy : z.length ≤ 24) (ho : okZ ms (nform ms w) z = true) : Ret Tryd.prog G0 46 [⟨.ro, .agg [i64 ms.length, ints (natI ms)]⟩, ⟨.ro, .one (ints (natI w))⟩, ⟨.ro, .one (ints (natI z))⟩] ⟨.tup [(false, [ints (natI (rotZ ms (nform ms w) z))]), (false, [i64 0])], []⟩ := by
  have hml := natI_length ms
  have hwl := natI_length w
  have hzl := natI_length z
  have hcw := checkWords_ret ms.length (natI ms) [natI w, natI z] (by omega) (by simp) (by simp; omega)
  rw [hok, wcode_t] at hcw
  simp only [List.all_cons, List.all_nil, wordN_of hw hx, wordN_of hz hy, Bool.and_true] at hcw
  have hti := ties_ret ms.length (natI ms)
  have hN := normal_ret ms w hA (by omega) hw (by omega)
  unfold rowsI at hcw
  (refine ret_of_den (E := en 44 [] (fun _ => [(9, 0), (10, 0), (26, 0), (27, 0), (28, 0)]) (fun _ => [])) tt_ok mixed Tryd.func46 rfl rfl rfl rfl ?_; refine ⟨by simp, ?_⟩)
  repeat' (first | ((first | refine opt_some (getC_rows rfl rfl (by omega)) ?_ | refine opt_some (by dsimp only; exact getC_lent rfl rfl (by omega)) ?_ | refine opt_some rfl ?_ | refine ⟨_, (by simp only [nf, nl, nm, en, ints, setC_setC, Nat.reduceAdd, Nat.reduceMul]; exact rfl), ?_⟩ | refine ⟨_, pickT rfl, ?_⟩ | refine ⟨_, rfl, ?_⟩ | refine iteP_true rfl ?_ | refine iteP_false rfl ?_ | refine iteP_true ‹_› ?_ | refine iteP_false ‹_› ?_ | refine andK ?_ | refine andA ?_ | refine andT ?_); conv => whnf) | (refine iteP_intro (fun hb => ?_) (fun hb => ?_) <;> (conv => whnf)))
  (refine ⟨_, hcw, ?_⟩; conv => whnf)
  repeat' (first | ((first | refine opt_some (getC_rows rfl rfl (by omega)) ?_ | refine opt_some (by dsimp only; exact getC_lent rfl rfl (by omega)) ?_ | refine opt_some rfl ?_ | refine ⟨_, (by simp only [nf, nl, nm, en, ints, setC_setC, Nat.reduceAdd, Nat.reduceMul]; exact rfl), ?_⟩ | refine ⟨_, pickT rfl, ?_⟩ | refine ⟨_, rfl, ?_⟩ | refine iteP_true rfl ?_ | refine iteP_false rfl ?_ | refine iteP_true ‹_› ?_ | refine iteP_false ‹_› ?_ | refine andK ?_ | refine andA ?_ | refine andT ?_); conv => whnf) | (refine iteP_intro (fun hb => ?_) (fun hb => ?_) <;> (conv => whnf)))
  (refine ⟨_, hti, ?_⟩; conv => whnf)
  repeat' (first | ((first | refine opt_some (getC_rows rfl rfl (by omega)) ?_ | refine opt_some (by dsimp only; exact getC_lent rfl rfl (by omega)) ?_ | refine opt_some rfl ?_ | refine ⟨_, (by simp only [nf, nl, nm, en, ints, setC_setC, Nat.reduceAdd, Nat.reduceMul]; exact rfl), ?_⟩ | refine ⟨_, pickT rfl, ?_⟩ | refine ⟨_, rfl, ?_⟩ | refine iteP_true rfl ?_ | refine iteP_false rfl ?_ | refine iteP_true ‹_› ?_ | refine iteP_false ‹_› ?_ | refine andK ?_ | refine andA ?_ | refine andT ?_); conv => whnf) | (refine iteP_intro (fun hb => ?_) (fun hb => ?_) <;> (conv => whnf)))
  (refine ⟨_, hN, ?_⟩; conv => whnf)
  repeat' (first | ((first | refine opt_some (getC_rows rfl rfl (by omega)) ?_ | refine opt_some (by dsimp only; exact getC_lent rfl rfl (by omega)) ?_ | refine opt_some rfl ?_ | refine ⟨_, (by simp only [nf, nl, nm, en, ints, setC_setC, Nat.reduceAdd, Nat.reduceMul]; exact rfl), ?_⟩ | refine ⟨_, pickT rfl, ?_⟩ | refine ⟨_, rfl, ?_⟩ | refine iteP_true rfl ?_ | refine iteP_false rfl ?_ | refine iteP_true ‹_› ?_ | refine iteP_false ‹_› ?_ | refine andK ?_ | refine andA ?_ | refine andT ?_); conv => whnf) | (refine iteP_intro (fun hb => ?_) (fun hb => ?_) <;> (conv => whnf)))
  refine ⟨fun k vs => ∃ (j : Nat) (r : List Nat), j ≤ z.length ∧ Wd ms r ∧ r.length = w.length ∧ okZ ms r (z.drop j) = true ∧ rotZ ms r (z.drop j) = rotZ ms (nform ms w) z ∧ vs = [.one (.shd (ints (natI ms))), .one (ints (natI r)), .one (.shd (ints (natI z))), .one (i64 z.length), .one (i64 j)] ∧ k = z.length - j, rfl, ⟨_, 0, nform ms w, by omega, nform_wd hA hw, nform_length hA hw, ho, rfl, by rw [← hzl]; rfl, rfl⟩, ?_⟩
  rintro k vs ⟨j, r, hj, hr, hrl, ho, he, rfl, rfl⟩
  have hrn := natI_length r
  repeat (first | ((first | refine opt_some (getC_rows rfl rfl (by omega)) ?_ | refine opt_some (by dsimp only; exact getC_lent rfl rfl (by omega)) ?_ | refine opt_some rfl ?_ | refine ⟨_, (by simp only [nf, nl, nm, en, ints, setC_setC, Nat.reduceAdd, Nat.reduceMul]; exact rfl), ?_⟩ | refine ⟨_, pickT rfl, ?_⟩ | refine ⟨_, rfl, ?_⟩ | refine iteP_true rfl ?_ | refine iteP_false rfl ?_ | refine iteP_true ‹_› ?_ | refine iteP_false ‹_› ?_ | refine andK ?_ | refine andA ?_ | refine andT ?_); conv => whnf))
  refine iteP_intro (fun hb => ?_) (fun hb => ?_) <;> (conv => whnf)
  · have hj' : j < z.length := by have := leT hb; omega
    have hgj : (natI z)[j]'(by omega) = ((z.getD j 0 : Nat) : Int) := natI_getD hj'
    have hza : z.getD j 0 < ms.length := by
      rw [List.getD_eq_getElem?_getD, List.getElem?_eq_getElem hj', Option.getD_some]
      exact hz _ (List.getElem_mem hj')
    rw [drop_getD hj'] at ho he
    have hA0 : ∃ a, z.getD j 0 = a := ⟨_, rfl⟩
    obtain ⟨a, haj⟩ := hA0
    rw [haj] at hgj hza ho he
    rw [okZ, Bool.and_eq_true] at ho
    rw [rotZ] at he
    obtain ⟨ho1, ho2⟩ := ho
    have hF := firsts_ret ms r (by omega) hA.lt hr (by omega)
    have hRo := rotated_ret ms r a hA (by omega) hr (by omega) hza (canF_mem ho1)
    have hrl2 := rotN_len hA hr hza (canF_mem ho1)
    repeat (first | ((first | refine opt_some (getC_rows rfl rfl (by omega)) ?_ | refine opt_some (by dsimp only; exact getC_lent rfl rfl (by omega)) ?_ | refine opt_some rfl ?_ | refine ⟨_, (by simp only [nf, nl, nm, en, ints, setC_setC, Nat.reduceAdd, Nat.reduceMul, hgj]; exact rfl), ?_⟩ | refine ⟨_, pickT rfl, ?_⟩ | refine ⟨_, rfl, ?_⟩ | refine iteP_true rfl ?_ | refine iteP_false rfl ?_ | refine iteP_true ‹_› ?_ | refine iteP_false ‹_› ?_ | refine andK ?_ | refine andA ?_ | refine andT ?_); conv => whnf))
    (refine ⟨_, hF, ?_⟩; conv => whnf)
    have hH := has_ret (fstM ms r) a (maskN_lt63 _ (by omega)) (by omega)
    rw [show (fstM ms r).testBit a = true by unfold fstM; rw [maskN_bit, decide_eq_true hza, Bool.true_and, ho1]] at hH
    repeat (first | ((first | refine opt_some (getC_rows rfl rfl (by omega)) ?_ | refine opt_some (by dsimp only; exact getC_lent rfl rfl (by omega)) ?_ | refine opt_some rfl ?_ | refine ⟨_, (by simp only [nf, nl, nm, en, ints, setC_setC, Nat.reduceAdd, Nat.reduceMul]; exact rfl), ?_⟩ | refine ⟨_, pickT rfl, ?_⟩ | refine ⟨_, rfl, ?_⟩ | refine iteP_true rfl ?_ | refine iteP_false rfl ?_ | refine iteP_true ‹_› ?_ | refine iteP_false ‹_› ?_ | refine andK ?_ | refine andA ?_ | refine andT ?_); conv => whnf))
    (refine ⟨_, hH, ?_⟩; conv => whnf)
    repeat (first | ((first | refine opt_some (getC_rows rfl rfl (by omega)) ?_ | refine opt_some (by dsimp only; exact getC_lent rfl rfl (by omega)) ?_ | refine opt_some rfl ?_ | refine ⟨_, (by simp only [nf, nl, nm, en, ints, setC_setC, Nat.reduceAdd, Nat.reduceMul]; exact rfl), ?_⟩ | refine ⟨_, pickT rfl, ?_⟩ | refine ⟨_, rfl, ?_⟩ | refine iteP_true rfl ?_ | refine iteP_false rfl ?_ | refine iteP_true ‹_› ?_ | refine iteP_false ‹_› ?_ | refine andK ?_ | refine andA ?_ | refine andT ?_); conv => whnf))
    (refine ⟨_, hRo, ?_⟩; conv => whnf)
    repeat (first | ((first | refine opt_some (getC_rows rfl rfl (by omega)) ?_ | refine opt_some (by dsimp only; exact getC_lent rfl rfl (by omega)) ?_ | refine opt_some rfl ?_ | refine ⟨_, (by simp only [nf, nl, nm, en, ints, setC_setC, Nat.reduceAdd, Nat.reduceMul]; exact rfl), ?_⟩ | refine ⟨_, pickT rfl, ?_⟩ | refine ⟨_, rfl, ?_⟩ | refine iteP_true rfl ?_ | refine iteP_false rfl ?_ | refine iteP_true ‹_› ?_ | refine iteP_false ‹_› ?_ | refine andK ?_ | refine andA ?_ | refine andT ?_); conv => whnf))
    refine ⟨_, ?_, j + 1, rotN ms r a, hj', rotN_wd hA hr hza, hrl2.trans hrl, ho2, he, ?_, rfl⟩
    · omega
    · rw [wrap_succ (by omega)]
      rfl
  · have hje : j = z.length := by have := leF hb; omega
    rw [hje, List.drop_length] at he
    rw [rotZ] at he
    repeat' (first | ((first | refine opt_some (getC_rows rfl rfl (by omega)) ?_ | refine opt_some (by dsimp only; exact getC_lent rfl rfl (by omega)) ?_ | refine opt_some rfl ?_ | refine ⟨_, (by simp only [nf, nl, nm, en, ints, setC_setC, Nat.reduceAdd, Nat.reduceMul]; exact rfl), ?_⟩ | refine ⟨_, pickT rfl, ?_⟩ | refine ⟨_, rfl, ?_⟩ | refine iteP_true rfl ?_ | refine iteP_false rfl ?_ | refine iteP_true ‹_› ?_ | refine iteP_false ‹_› ?_ | refine andK ?_ | refine andA ?_ | refine andT ?_); conv => whnf) | (refine iteP_intro (fun hb => ?_) (fun hb => ?_) <;> (conv => whnf)))
    rw [he]
    rfl
end Go.Proofs.YtpopepcmfanegaaDoor
