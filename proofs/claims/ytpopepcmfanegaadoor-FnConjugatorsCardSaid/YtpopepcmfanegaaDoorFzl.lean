import Derived.Test.YtpopepcmfanegaaDoorFzk
set_option autoImplicit false
set_option linter.unusedSimpArgs false
set_option linter.unusedVariables false
namespace Go.Proofs.YtpopepcmfanegaaDoor
open Go.Den
set_option maxHeartbeats 4000000 in
set_option maxRecDepth 100000 in
theorem cjsIn_ret (ms w v b : List Nat) (i : Nat) (hl : ms.length ≤ 8) (hA : Alpha ms) (hok : alphaOk ms.length (natI ms) = true) (e1 : (natI ms).map Int.toNat = ms) (hw : Wd ms w) (hv : Wd ms v) (hx : w.length ≤ 24) (hy : v.length ≤ 24) (hs : (pcW ms w).length ≤ 1000) (hi : i < (pcW ms w).length) (hb : (pcW ms w)[i] = (nform ms v, b)) (hf : ∀ j (hj : j < i), ((pcW ms w)[j]'(by omega)).1 ≠ nform ms v) (hbl : ∀ p ∈ pcW ms w, p.2.length ≤ 1001) : Ret Tryd.prog G0 44 [⟨.ro, .agg [i64 ms.length, ints (natI ms)]⟩, ⟨.ro, .one (ints (natI w))⟩, ⟨.ro, .one (ints (natI v))⟩] ⟨.tup [(false, [if 24 < b.length then nilS else ints (natI b)]), (false, [i64 (if 24 < b.length then 3 else 0)])], []⟩ := by
  have hml := natI_length ms
  have hwl := natI_length w
  have hvl := natI_length v
  have hC := arecS_ret ms.length (natI ms) (natI w) (natI v) (by omega) (by omega) (by omega)
  have hm : nform ms v ∈ cjW ms w := by
    rw [← pcW_fst]
    exact List.mem_map.2 ⟨(nform ms v, b), by rw [← hb]; exact List.getElem_mem hi, rfl⟩
  have hz : chkC ms.length (natI ms) (natI w) (natI v) = 0 := by
    unfold chkC
    rw [if_pos hok, if_pos (by rw [wordN_of hw hx, wordN_of hv hy]; rfl), e1, map_toNat, if_neg (by omega)]
  rw [hz, e1, map_toNat, map_toNat, decide_eq_true rfl, decide_eq_true hm, Bool.true_and] at hC
  have hNw := l03Normal_ret ms w hA (by omega) hw (by omega)
  have hNv := l03Normal_ret ms v hA (by omega) hv (by omega)
  have hG := cjI_of ms w hA hw
  have hnv := natI_length (nform ms v)
  have hnvl := nform_length hA hv
  (refine ret_of_den (E := en 102 [] (fun | 9 => [(3, 0), (10, 0), (11, 0), (12, 0), (13, 0)] | 16 => [(3, 0), (10, 0), (11, 0), (12, 0), (13, 0), (14, 0)] | _ => []) (fun _ => [])) tt_ok mixed Tryd.func44 rfl rfl rfl rfl ?_; refine ⟨by simp, ?_⟩)
  repeat' (first | ((first | refine opt_some (getC_rows rfl rfl (by omega)) ?_ | refine opt_some (by dsimp only; exact getC_lent rfl rfl (by omega)) ?_ | refine opt_some rfl ?_ | refine ⟨_, (by simp only [nf, nl, nm, en, ints, setC_setC, Nat.reduceAdd, Nat.reduceMul]; exact rfl), ?_⟩ | refine ⟨_, pickT rfl, ?_⟩ | refine ⟨_, rfl, ?_⟩ | refine iteP_true rfl ?_ | refine iteP_false rfl ?_ | refine iteP_true ‹_› ?_ | refine iteP_false ‹_› ?_ | refine andK ?_ | refine andA ?_ | refine andT ?_); conv => whnf) | (refine iteP_intro (fun hb => ?_) (fun hb => ?_) <;> (conv => whnf)))
  (refine ⟨_, hC, ?_⟩; conv => whnf)
  repeat' (first | ((first | refine opt_some (getC_rows rfl rfl (by omega)) ?_ | refine opt_some (by dsimp only; exact getC_lent rfl rfl (by omega)) ?_ | refine opt_some rfl ?_ | refine ⟨_, (by simp only [nf, nl, nm, en, ints, setC_setC, Nat.reduceAdd, Nat.reduceMul]; exact rfl), ?_⟩ | refine ⟨_, pickT rfl, ?_⟩ | refine ⟨_, rfl, ?_⟩ | refine iteP_true rfl ?_ | refine iteP_false rfl ?_ | refine iteP_true ‹_› ?_ | refine iteP_false ‹_› ?_ | refine andK ?_ | refine andA ?_ | refine andT ?_); conv => whnf) | (refine iteP_intro (fun hb => ?_) (fun hb => ?_) <;> (conv => whnf)))
  (refine ⟨_, hNw, ?_⟩; conv => whnf)
  repeat' (first | ((first | refine opt_some (getC_rows rfl rfl (by omega)) ?_ | refine opt_some (by dsimp only; exact getC_lent rfl rfl (by omega)) ?_ | refine opt_some rfl ?_ | refine ⟨_, (by simp only [nf, nl, nm, en, ints, setC_setC, Nat.reduceAdd, Nat.reduceMul]; exact rfl), ?_⟩ | refine ⟨_, pickT rfl, ?_⟩ | refine ⟨_, rfl, ?_⟩ | refine iteP_true rfl ?_ | refine iteP_false rfl ?_ | refine iteP_true ‹_› ?_ | refine iteP_false ‹_› ?_ | refine andK ?_ | refine andA ?_ | refine andT ?_); conv => whnf) | (refine iteP_intro (fun hb => ?_) (fun hb => ?_) <;> (conv => whnf)))
  (refine ⟨_, hNv, ?_⟩; conv => whnf)
  repeat' (first | ((first | refine opt_some (getC_rows rfl rfl (by omega)) ?_ | refine opt_some (by dsimp only; exact getC_lent rfl rfl (by omega)) ?_ | refine opt_some rfl ?_ | refine ⟨_, (by simp only [nf, nl, nm, en, ints, setC_setC, Nat.reduceAdd, Nat.reduceMul]; exact rfl), ?_⟩ | refine ⟨_, pickT rfl, ?_⟩ | refine ⟨_, rfl, ?_⟩ | refine iteP_true rfl ?_ | refine iteP_false rfl ?_ | refine iteP_true ‹_› ?_ | refine iteP_false ‹_› ?_ | refine andK ?_ | refine andA ?_ | refine andT ?_); conv => whnf) | (refine iteP_intro (fun hb => ?_) (fun hb => ?_) <;> (conv => whnf)))
  refine ⟨fun k vs => ∃ (q : Nat) (ps : List (List Nat × List Nat)), q ≤ i ∧ q ≤ ps.length ∧ ps.length ≤ 1000 ∧ pcF ms (1001 - q) q ps = pcW ms w ∧ vs = [.one (.ptr [i64 ms.length, .shd (ints (natI ms))]), .one (.sl false 1 ps.length ((ps.map fun p => natI p.1).map ints)), .one (.sl false 1 ps.length ((ps.map fun p => natI p.2).map ints)), .one (ints (natI (nform ms v))), .one (i64 q)] ∧ k = i + 1 - q, rfl, ⟨_, 0, [(nform ms w, [])], by omega, by simp, by simp, rfl, rfl, rfl⟩, ?_⟩
  rintro k vs ⟨q, ps, hqi, hqp, hpl, hF, rfl, rfl⟩
  have hm1 : (ps.map fun p => natI p.1).length = ps.length := List.length_map _
  have hm2 : (ps.map fun p => natI p.2).length = ps.length := List.length_map _
  have hX := pcF_ext ms (1001 - q) q ps
  obtain ⟨t, ht⟩ := hX
  rw [hF] at ht
  have hq' : q < ps.length := by
    by_cases h : q < ps.length
    · exact h
    · rw [pcF_stop h] at hF
      rw [← hF] at hi
      omega
  have hqq : (pcW ms w)[q]'(by omega) = ps[q] := by
    simp only [ht]
    rw [List.getElem_append_left hq']
  have hR0 : ∃ r c, ps[q] = (r, c) := ⟨_, _, rfl⟩
  obtain ⟨r, c, hrc⟩ := hR0
  have hpm : (r, c) ∈ pcW ms w := by rw [← hrc, ← hqq]; exact List.getElem_mem (by omega)
  have hrok := hG.ok r (List.mem_map.2 ⟨(r, c), hpm, rfl⟩)
  obtain ⟨hrw, hrl⟩ := hrok
  have hcl : c.length ≤ 1001 := hbl _ hpm
  have hrn := natI_length r
  have hcn := natI_length c
  have hg1 : (ps.map fun p => natI p.1)[q]'(by omega) = natI r := by rw [List.getElem_map, hrc]
  have hg2 : (ps.map fun p => natI p.2)[q]'(by omega) = natI c := by rw [List.getElem_map, hrc]
  have hSm := l01Same_ret (natI r) (natI (nform ms v)) (by omega)
  have hdn : decide (natI r = natI (nform ms v)) = decide (r = nform ms v) := by
    rw [decide_eq_decide]
    exact ⟨natI_inj, fun e => by rw [e]⟩
  rw [hdn, ← hg1] at hSm
  have hlt : decide ((q : Int) < ps.length) = true := decide_eq_true (by omega)
  repeat (first | ((first | refine opt_some (getC_rows rfl rfl (by omega)) ?_ | refine opt_some (by dsimp only; exact getC_lent rfl rfl (by omega)) ?_ | refine opt_some rfl ?_ | refine ⟨_, (by simp only [nf, nl, nm, en, ints, setC_setC, Nat.reduceAdd, Nat.reduceMul]; exact rfl), ?_⟩ | refine ⟨_, pickT rfl, ?_⟩ | refine ⟨_, rfl, ?_⟩ | refine iteP_true rfl ?_ | refine iteP_false rfl ?_ | refine iteP_true ‹_› ?_ | refine iteP_false ‹_› ?_ | refine andK ?_ | refine andA ?_ | refine andT ?_); conv => whnf))
  by_cases hrv : r = nform ms v
  · rw [decide_eq_true hrv] at hSm
    have hqe : q = i := by
      by_cases h : q < i
      · have := hf q h
        rw [hqq, hrc] at this
        exact absurd hrv this
      · omega
    have hcb : c = b := by
      have : (pcW ms w)[q]'(by omega) = (nform ms v, b) := by simp only [hqe]; exact hb
      rw [hqq, hrc] at this
      exact (Prod.mk.injEq .. ▸ this).2
    have hcb2 : c.length = b.length := by rw [hcb]
    have hg2l : ((ps.map fun p => natI p.2)[q]'(by omega)).length = b.length := by rw [hg2, hcn, hcb]
    repeat (first | ((first | refine opt_some (getC_rows rfl rfl (by omega)) ?_ | refine opt_some (by dsimp only; exact getC_lent rfl rfl (by omega)) ?_ | refine opt_some rfl ?_ | refine ⟨_, (by simp only [nf, nl, nm, en, ints, setC_setC, Nat.reduceAdd, Nat.reduceMul]; exact rfl), ?_⟩ | refine ⟨_, pickT rfl, ?_⟩ | refine ⟨_, rfl, ?_⟩ | refine iteP_true rfl ?_ | refine iteP_false rfl ?_ | refine iteP_true ‹_› ?_ | refine iteP_false ‹_› ?_ | refine andK ?_ | refine andA ?_ | refine andT ?_); conv => whnf))
    (refine ⟨_, hSm, ?_⟩; conv => whnf)
    repeat (first | ((first | refine opt_some (getC_rows rfl rfl (by omega)) ?_ | refine opt_some (by dsimp only; exact getC_lent rfl rfl (by omega)) ?_ | refine opt_some rfl ?_ | refine ⟨_, (by simp only [nf, nl, nm, en, ints, setC_setC, Nat.reduceAdd, Nat.reduceMul, hg2]; exact rfl), ?_⟩ | refine ⟨_, pickT rfl, ?_⟩ | refine ⟨_, rfl, ?_⟩ | refine iteP_true rfl ?_ | refine iteP_false rfl ?_ | refine iteP_true ‹_› ?_ | refine iteP_false ‹_› ?_ | refine andK ?_ | refine andA ?_ | refine andT ?_); conv => whnf))
    refine iteP_intro (fun hb => ?_) (fun hb => ?_) <;> (conv => whnf)
    · have hlg : 24 < b.length := by have := leT hb; omega
      repeat' (first | ((first | refine opt_some (getC_rows rfl rfl (by omega)) ?_ | refine opt_some (by dsimp only; exact getC_lent rfl rfl (by omega)) ?_ | refine opt_some rfl ?_ | refine ⟨_, (by simp only [nf, nl, nm, en, ints, setC_setC, Nat.reduceAdd, Nat.reduceMul]; exact rfl), ?_⟩ | refine ⟨_, pickT rfl, ?_⟩ | refine ⟨_, rfl, ?_⟩ | refine iteP_true rfl ?_ | refine iteP_false rfl ?_ | refine iteP_true ‹_› ?_ | refine iteP_false ‹_› ?_ | refine andK ?_ | refine andA ?_ | refine andT ?_); conv => whnf) | (refine iteP_intro (fun hb => ?_) (fun hb => ?_) <;> (conv => whnf)))
      rw [if_pos hlg, if_pos hlg]
      rfl
    · have hlg : ¬ 24 < b.length := by have := leF hb; omega
      repeat' (first | ((first | refine opt_some (getC_rows rfl rfl (by omega)) ?_ | refine opt_some (by dsimp only; exact getC_lent rfl rfl (by omega)) ?_ | refine opt_some rfl ?_ | refine ⟨_, (by simp only [nf, nl, nm, en, ints, setC_setC, Nat.reduceAdd, Nat.reduceMul, hg2]; exact rfl), ?_⟩ | refine ⟨_, pickT rfl, ?_⟩ | refine ⟨_, rfl, ?_⟩ | refine iteP_true rfl ?_ | refine iteP_false rfl ?_ | refine iteP_true ‹_› ?_ | refine iteP_false ‹_› ?_ | refine andK ?_ | refine andA ?_ | refine andT ?_); conv => whnf) | (refine iteP_intro (fun hb => ?_) (fun hb => ?_) <;> (conv => whnf)))
      rw [if_neg hlg, if_neg hlg, ← hcb, ← hg2]
      rfl
  · rw [decide_eq_false hrv] at hSm
    have hqlt : q < i := by
      by_cases h : q < i
      · exact h
      · have he : q = i := by omega
        have : (pcW ms w)[q]'(by omega) = (nform ms v, b) := by simp only [he]; exact hb
        rw [hqq, hrc] at this
        exact absurd (Prod.mk.injEq .. ▸ this).1 hrv
    have hgd : ps.getD q ([], []) = (r, c) := by rw [List.getD_eq_getElem?_getD, List.getElem?_eq_getElem hq', hrc]; rfl
    rw [show 1001 - q = (1001 - (q + 1)) + 1 by omega, pcF, if_pos ⟨hq', by omega⟩, hgd] at hF
    dsimp only at hF
    have hfull : (pcL ms r c (fsts ms r) ps).length ≤ 1000 := by
      obtain ⟨t2, ht2⟩ := pcF_ext ms (1001 - (q + 1)) (q + 1) (pcL ms r c (fsts ms r) ps)
      rw [hF] at ht2
      have := congrArg List.length ht2
      rw [List.length_append] at this
      omega
    repeat (first | ((first | refine opt_some (getC_rows rfl rfl (by omega)) ?_ | refine opt_some (by dsimp only; exact getC_lent rfl rfl (by omega)) ?_ | refine opt_some rfl ?_ | refine ⟨_, (by simp only [nf, nl, nm, en, ints, setC_setC, Nat.reduceAdd, Nat.reduceMul]; exact rfl), ?_⟩ | refine ⟨_, pickT rfl, ?_⟩ | refine ⟨_, rfl, ?_⟩ | refine iteP_true rfl ?_ | refine iteP_false rfl ?_ | refine iteP_true ‹_› ?_ | refine iteP_false ‹_› ?_ | refine andK ?_ | refine andA ?_ | refine andT ?_); conv => whnf))
    (refine ⟨_, hSm, ?_⟩; conv => whnf)
    repeat (first | ((first | refine opt_some (getC_rows rfl rfl (by omega)) ?_ | refine opt_some (by dsimp only; exact getC_lent rfl rfl (by omega)) ?_ | refine opt_some rfl ?_ | refine ⟨_, (by simp only [nf, nl, nm, en, ints, setC_setC, Nat.reduceAdd, Nat.reduceMul]; exact rfl), ?_⟩ | refine ⟨_, pickT rfl, ?_⟩ | refine ⟨_, rfl, ?_⟩ | refine iteP_true rfl ?_ | refine iteP_false rfl ?_ | refine iteP_true ‹_› ?_ | refine iteP_false ‹_› ?_ | refine andK ?_ | refine andA ?_ | refine andT ?_); conv => whnf))
    refine ⟨fun k vs => ∃ (a : Nat) (qs : List (List Nat × List Nat)), a ≤ ms.length ∧ pcL ms r c (fstA ms r a) ps = qs ∧ (∃ t, qs = ps ++ t) ∧ vs = [.one (.ptr [i64 ms.length, .shd (ints (natI ms))]), .one (.sl false 1 qs.length ((qs.map fun p => natI p.1).map ints)), .one (.sl false 1 qs.length ((qs.map fun p => natI p.2).map ints)), .one (ints (natI (nform ms v))), .one (i64 q), .one (i64 a)] ∧ k = ms.length - a, rfl, ⟨_, 0, ps, by omega, rfl, ⟨[], by simp⟩, rfl, rfl⟩, ?_⟩
    rintro k vs ⟨a, qs, ha, hqs, ⟨t3, ht3⟩, rfl, rfl⟩
    have hP := pcL_part ha hqs
    obtain ⟨t4, ht4⟩ := hP
    have hql : qs.length ≤ 1000 := by
      rw [ht4, List.length_append] at hfull
      omega
    have hqn : q < qs.length := by rw [ht3, List.length_append]; omega
    have hqg : qs[q] = (r, c) := by
      rw [← hrc]
      simp only [ht3]
      rw [List.getElem_append_left hq']
    have hn1 : (qs.map fun p => natI p.1).length = qs.length := List.length_map _
    have hn2 : (qs.map fun p => natI p.2).length = qs.length := List.length_map _
    have hk1 : (qs.map fun p => natI p.1)[q]'(by omega) = natI r := by rw [List.getElem_map, hqg]
    have hk2 : (qs.map fun p => natI p.2)[q]'(by omega) = natI c := by rw [List.getElem_map, hqg]
    have hqm : ∀ p ∈ qs, p.1.length = w.length := fun p hp => by
      obtain ⟨t5, ht5⟩ := pcF_ext ms (1001 - (q + 1)) (q + 1) (pcL ms r c (fsts ms r) ps)
      rw [hF, ht4] at ht5
      exact (hG.ok p.1 (List.mem_map_of_mem (by rw [ht5]; exact List.mem_append_left _ (List.mem_append_left _ hp)))).2
    repeat (first | ((first | refine opt_some (getC_rows rfl rfl (by omega)) ?_ | refine opt_some (by dsimp only; exact getC_lent rfl rfl (by omega)) ?_ | refine opt_some rfl ?_ | refine ⟨_, (by simp only [nf, nl, nm, en, ints, setC_setC, Nat.reduceAdd, Nat.reduceMul]; exact rfl), ?_⟩ | refine ⟨_, pickT rfl, ?_⟩ | refine ⟨_, rfl, ?_⟩ | refine iteP_true rfl ?_ | refine iteP_false rfl ?_ | refine iteP_true ‹_› ?_ | refine iteP_false ‹_› ?_ | refine andK ?_ | refine andA ?_ | refine andT ?_); conv => whnf))
    refine iteP_intro (fun hb => ?_) (fun hb => ?_) <;> (conv => whnf)
    · have ha' : a < ms.length := by have := leT hb; omega
      have hR := l07Rotate_ret ms r a hA (by omega) hrw (by omega) ha'
      rw [← hk1] at hR
      have hsu := fstA_succ ms r a
      cases hc : canF ms a r with
      | false =>
        rw [hc, if_neg (by simp)] at hsu
        rw [hc, if_neg (by simp)] at hR
        repeat (first | ((first | refine opt_some (getC_rows rfl rfl (by omega)) ?_ | refine opt_some (by dsimp only; exact getC_lent rfl rfl (by omega)) ?_ | refine opt_some rfl ?_ | refine ⟨_, (by simp only [nf, nl, nm, en, ints, setC_setC, Nat.reduceAdd, Nat.reduceMul]; exact rfl), ?_⟩ | refine ⟨_, pickT rfl, ?_⟩ | refine ⟨_, rfl, ?_⟩ | refine iteP_true rfl ?_ | refine iteP_false rfl ?_ | refine iteP_true ‹_› ?_ | refine iteP_false ‹_› ?_ | refine andK ?_ | refine andA ?_ | refine andT ?_); conv => whnf))
        (refine ⟨_, hR, ?_⟩; conv => whnf)
        repeat (first | ((first | refine opt_some (getC_rows rfl rfl (by omega)) ?_ | refine opt_some (by dsimp only; exact getC_lent rfl rfl (by omega)) ?_ | refine opt_some rfl ?_ | refine ⟨_, (by simp only [nf, nl, nm, en, ints, setC_setC, Nat.reduceAdd, Nat.reduceMul]; exact rfl), ?_⟩ | refine ⟨_, pickT rfl, ?_⟩ | refine ⟨_, rfl, ?_⟩ | refine iteP_true rfl ?_ | refine iteP_false rfl ?_ | refine iteP_true ‹_› ?_ | refine iteP_false ‹_› ?_ | refine andK ?_ | refine andA ?_ | refine andT ?_); conv => whnf))
        refine ⟨_, ?_, a + 1, qs, ha', by rw [hsu]; exact hqs, ⟨t3, ht3⟩, by rw [wrap_succ (by omega)]; rfl, rfl⟩
        omega
      | true =>
        rw [hc, if_pos rfl] at hsu
        rw [hc, if_pos rfl] at hR
        have hsn := pcL_snoc ms r c (fstA ms r a) a ps
        rw [hqs, if_neg (by omega)] at hsn
        have hFi := l07Find_ret (qs.map fun p => natI p.1) (natI (rotN ms r a)) (by omega) (fun x hx => by obtain ⟨y, hy, rfl⟩ := List.mem_map.1 hx; rw [natI_length, hqm y hy]; omega)
        have hneg := fndW_neg (w := natI (rotN ms r a)) (rs := qs.map fun p => natI p.1) (k := 0) (Int.le_refl _)
        rw [show (qs.map fun p => natI p.1) = (qs.map (·.1)).map natI by rw [List.map_map]; rfl, natI_mem] at hneg
        rw [show (qs.map (·.1)).map natI = qs.map fun p => natI p.1 by rw [List.map_map]; rfl] at hneg
        unfold rowsI at hFi
        rw [hn1] at hFi
        repeat (first | ((first | refine opt_some (getC_rows rfl rfl (by omega)) ?_ | refine opt_some (by dsimp only; exact getC_lent rfl rfl (by omega)) ?_ | refine opt_some rfl ?_ | refine ⟨_, (by simp only [nf, nl, nm, en, ints, setC_setC, Nat.reduceAdd, Nat.reduceMul]; exact rfl), ?_⟩ | refine ⟨_, pickT rfl, ?_⟩ | refine ⟨_, rfl, ?_⟩ | refine iteP_true rfl ?_ | refine iteP_false rfl ?_ | refine iteP_true ‹_› ?_ | refine iteP_false ‹_› ?_ | refine andK ?_ | refine andA ?_ | refine andT ?_); conv => whnf))
        (refine ⟨_, hR, ?_⟩; conv => whnf)
        repeat (first | ((first | refine opt_some (getC_rows rfl rfl (by omega)) ?_ | refine opt_some (by dsimp only; exact getC_lent rfl rfl (by omega)) ?_ | refine opt_some rfl ?_ | refine ⟨_, (by simp only [nf, nl, nm, en, ints, setC_setC, Nat.reduceAdd, Nat.reduceMul]; exact rfl), ?_⟩ | refine ⟨_, pickT rfl, ?_⟩ | refine ⟨_, rfl, ?_⟩ | refine iteP_true rfl ?_ | refine iteP_false rfl ?_ | refine iteP_true ‹_› ?_ | refine iteP_false ‹_› ?_ | refine andK ?_ | refine andA ?_ | refine andT ?_); conv => whnf))
        (refine ⟨_, hFi, ?_⟩; conv => whnf)
        repeat (first | ((first | refine opt_some (getC_rows rfl rfl (by omega)) ?_ | refine opt_some (by dsimp only; exact getC_lent rfl rfl (by omega)) ?_ | refine opt_some rfl ?_ | refine ⟨_, (by simp only [nf, nl, nm, en, ints, setC_setC, Nat.reduceAdd, Nat.reduceMul]; exact rfl), ?_⟩ | refine ⟨_, pickT rfl, ?_⟩ | refine ⟨_, rfl, ?_⟩ | refine iteP_true rfl ?_ | refine iteP_false rfl ?_ | refine iteP_true ‹_› ?_ | refine iteP_false ‹_› ?_ | refine andK ?_ | refine andA ?_ | refine andT ?_); conv => whnf))
        refine iteP_intro (fun hb => ?_) (fun hb => ?_) <;> (conv => whnf)
        · have hn : rotN ms r a ∉ qs.map (·.1) := hneg.1 (of_decide_eq_true hb)
          rw [if_neg hn] at hsn
          have hO := l01Own_ret (natI c) (by omega)
          rw [← hk2] at hO
          have hp1 := rowsP1 qs (rotN ms r a, c ++ [a])
          have hp2 := rowsP2 qs (rotN ms r a, c ++ [a])
          repeat (first | ((first | refine opt_some (getC_rows rfl rfl (by omega)) ?_ | refine opt_some (by dsimp only; exact getC_lent rfl rfl (by omega)) ?_ | refine opt_some rfl ?_ | refine ⟨_, (by simp only [nf, nl, nm, en, ints, setC_setC, Nat.reduceAdd, Nat.reduceMul]; exact rfl), ?_⟩ | refine ⟨_, pickT rfl, ?_⟩ | refine ⟨_, rfl, ?_⟩ | refine iteP_true rfl ?_ | refine iteP_false rfl ?_ | refine iteP_true ‹_› ?_ | refine iteP_false ‹_› ?_ | refine andK ?_ | refine andA ?_ | refine andT ?_); conv => whnf))
          (refine ⟨_, hO, ?_⟩; conv => whnf)
          repeat (first | ((first | refine opt_some (getC_rows rfl rfl (by omega)) ?_ | refine opt_some (by dsimp only; exact getC_lent rfl rfl (by omega)) ?_ | refine opt_some rfl ?_ | refine ⟨_, (by simp only [nf, nl, nm, en, ints, setC_setC, Nat.reduceAdd, Nat.reduceMul, hk2]; exact rfl), ?_⟩ | refine ⟨_, pickT rfl, ?_⟩ | refine ⟨_, rfl, ?_⟩ | refine iteP_true rfl ?_ | refine iteP_false rfl ?_ | refine iteP_true ‹_› ?_ | refine iteP_false ‹_› ?_ | refine andK ?_ | refine andA ?_ | refine andT ?_); conv => whnf))
          refine ⟨_, ?_, a + 1, qs ++ [(rotN ms r a, c ++ [a])], ha', by rw [hsu]; exact hsn, ⟨t3 ++ [(rotN ms r a, c ++ [a])], by rw [ht3, List.append_assoc]⟩, ?_, rfl⟩
          · omega
          · rw [wrap_succ (by omega), ← hp1, ← hp2, ints_natI_snoc]
            rfl
        · have hn : rotN ms r a ∈ qs.map (·.1) := Decidable.not_not.1 fun h => (of_decide_eq_false hb) (hneg.2 h)
          rw [if_pos hn] at hsn
          repeat (first | ((first | refine opt_some (getC_rows rfl rfl (by omega)) ?_ | refine opt_some (by dsimp only; exact getC_lent rfl rfl (by omega)) ?_ | refine opt_some rfl ?_ | refine ⟨_, (by simp only [nf, nl, nm, en, ints, setC_setC, Nat.reduceAdd, Nat.reduceMul]; exact rfl), ?_⟩ | refine ⟨_, pickT rfl, ?_⟩ | refine ⟨_, rfl, ?_⟩ | refine iteP_true rfl ?_ | refine iteP_false rfl ?_ | refine iteP_true ‹_› ?_ | refine iteP_false ‹_› ?_ | refine andK ?_ | refine andA ?_ | refine andT ?_); conv => whnf))
          refine ⟨_, ?_, a + 1, qs, ha', by rw [hsu]; exact hsn, ⟨t3, ht3⟩, by rw [wrap_succ (by omega)]; rfl, rfl⟩
          omega
    · have hae : a = ms.length := by have := leF hb; omega
      have hfe : pcL ms r c (fsts ms r) ps = qs := by rw [← hqs, hae]; rfl
      rw [hfe] at hF
      repeat (first | ((first | refine opt_some (getC_rows rfl rfl (by omega)) ?_ | refine opt_some (by dsimp only; exact getC_lent rfl rfl (by omega)) ?_ | refine opt_some rfl ?_ | refine ⟨_, (by simp only [nf, nl, nm, en, ints, setC_setC, Nat.reduceAdd, Nat.reduceMul]; exact rfl), ?_⟩ | refine ⟨_, pickT rfl, ?_⟩ | refine ⟨_, rfl, ?_⟩ | refine iteP_true rfl ?_ | refine iteP_false rfl ?_ | refine iteP_true ‹_› ?_ | refine iteP_false ‹_› ?_ | refine andK ?_ | refine andA ?_ | refine andT ?_); conv => whnf))
      refine ⟨_, ?_, q + 1, qs, by omega, by omega, hql, hF, by rw [wrap_succ (by omega)]; rfl, rfl⟩
      omega
end Go.Proofs.YtpopepcmfanegaaDoor
