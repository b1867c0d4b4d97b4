import Derived.Test.YtihdeagknggeiaaDoorFe
set_option autoImplicit false
set_option linter.unusedSimpArgs false
set_option linter.unusedVariables false
namespace Go.Proofs.YtihdeagknggeiaaDoor
open Go.Den
/-- Are the numbers a relation on as many as they are? -/
def relOk (ds : List Int) : Bool := decide (ds.length ≤ 24) && ds.all fun d => decide (0 ≤ d ∧ d ≤ 2 ^ ds.length - 1)
set_option maxHeartbeats 16000000 in
set_option maxRecDepth 100000 in
theorem isRel_ret (ds : List Int) (hx : ds.length < 2 ^ 62) : Ret Tryd.prog G0 99 [⟨.ro, .one (ints ds)⟩] ⟨.one (.c (.bool (relOk ds))), []⟩ := by
  (refine ret_of_den (E := en 14 [] (fun _ => []) (fun _ => [])) tt_ok mixed Tryd.func99 rfl rfl rfl rfl ?_; refine ⟨by simp, ?_⟩)
  repeat (first | ((first | refine opt_some (getC_rows rfl rfl (by omega)) ?_ | refine opt_some (by dsimp only; exact getC_lent rfl rfl (by omega)) ?_ | refine opt_some rfl ?_ | refine ⟨_, (by simp only [nf, nl, nm, en, ints, setC_setC, Nat.reduceAdd, Nat.reduceMul]; exact rfl), ?_⟩ | refine ⟨_, pickT rfl, ?_⟩ | refine ⟨_, rfl, ?_⟩ | refine iteP_true rfl ?_ | refine iteP_false rfl ?_ | refine iteP_true ‹_› ?_ | refine iteP_false ‹_› ?_ | refine andK ?_ | refine andA ?_ | refine andT ?_); conv => whnf))
  refine iteP_intro (fun hb => ?_) (fun hb => ?_) <;> (conv => whnf)
  · have hl : ds.length ≤ 24 := by have := leT hb; omega
    have hp := pow_i64 (i := ds.length) (by omega)
    have hp1 := Nat.two_pow_pos ds.length
    have hw : IntKind.i64.wrap (((2 ^ ds.length : Nat) : Int) - 1) = ((2 ^ ds.length : Nat) : Int) - 1 := wrap_i64 (by omega) (by omega)
    repeat (first | ((first | refine opt_some (getC_rows rfl rfl (by omega)) ?_ | refine opt_some (by dsimp only; exact getC_lent rfl rfl (by omega)) ?_ | refine opt_some rfl ?_ | refine ⟨_, (by simp only [nf, nl, nm, en, ints, setC_setC, Nat.reduceAdd, Nat.reduceMul, hw]; exact rfl), ?_⟩ | refine ⟨_, pickT rfl, ?_⟩ | refine ⟨_, rfl, ?_⟩ | refine iteP_true rfl ?_ | refine iteP_false rfl ?_ | refine iteP_true ‹_› ?_ | refine iteP_false ‹_› ?_ | refine andK ?_ | refine andA ?_ | refine andT ?_); conv => whnf))
    (refine ⟨_, length_ret ds, ?_⟩; conv => whnf)
    repeat (first | ((first | refine opt_some (getC_rows rfl rfl (by omega)) ?_ | refine opt_some (by dsimp only; exact getC_lent rfl rfl (by omega)) ?_ | refine opt_some rfl ?_ | refine ⟨_, (by simp only [nf, nl, nm, en, ints, setC_setC, Nat.reduceAdd, Nat.reduceMul, hw]; exact rfl), ?_⟩ | refine ⟨_, pickT rfl, ?_⟩ | refine ⟨_, rfl, ?_⟩ | refine iteP_true rfl ?_ | refine iteP_false rfl ?_ | refine iteP_true ‹_› ?_ | refine iteP_false ‹_› ?_ | refine andK ?_ | refine andA ?_ | refine andT ?_); conv => whnf))
    (refine ⟨_, one_retN ds.length (by omega), ?_⟩; conv => whnf)
    repeat (first | ((first | refine opt_some (getC_rows rfl rfl (by omega)) ?_ | refine opt_some (by dsimp only; exact getC_lent rfl rfl (by omega)) ?_ | refine opt_some rfl ?_ | refine ⟨_, (by simp only [nf, nl, nm, en, ints, setC_setC, Nat.reduceAdd, Nat.reduceMul, hw]; exact rfl), ?_⟩ | refine ⟨_, pickT rfl, ?_⟩ | refine ⟨_, rfl, ?_⟩ | refine iteP_true rfl ?_ | refine iteP_false rfl ?_ | refine iteP_true ‹_› ?_ | refine iteP_false ‹_› ?_ | refine andK ?_ | refine andA ?_ | refine andT ?_); conv => whnf))
    (refine ⟨_, allIn_ret ds _ _ hx, ?_⟩; conv => whnf)
    repeat (first | ((first | refine opt_some (getC_rows rfl rfl (by omega)) ?_ | refine opt_some (by dsimp only; exact getC_lent rfl rfl (by omega)) ?_ | refine opt_some rfl ?_ | refine ⟨_, (by simp only [nf, nl, nm, en, ints, setC_setC, Nat.reduceAdd, Nat.reduceMul, hw]; exact rfl), ?_⟩ | refine ⟨_, pickT rfl, ?_⟩ | refine ⟨_, rfl, ?_⟩ | refine iteP_true rfl ?_ | refine iteP_false rfl ?_ | refine iteP_true ‹_› ?_ | refine iteP_false ‹_› ?_ | refine andK ?_ | refine andA ?_ | refine andT ?_); conv => whnf))
    refine endB ?_
    unfold relOk
    rw [decide_eq_true hl, Bool.true_and]
    simp
  · repeat' (first | ((first | refine opt_some (getC_rows rfl rfl (by omega)) ?_ | refine opt_some (by dsimp only; exact getC_lent rfl rfl (by omega)) ?_ | refine opt_some rfl ?_ | refine ⟨_, (by simp only [nf, nl, nm, en, ints, setC_setC, Nat.reduceAdd, Nat.reduceMul]; exact rfl), ?_⟩ | refine ⟨_, pickT rfl, ?_⟩ | refine ⟨_, rfl, ?_⟩ | refine iteP_true rfl ?_ | refine iteP_false rfl ?_ | refine iteP_true ‹_› ?_ | refine iteP_false ‹_› ?_ | refine andK ?_ | refine andA ?_ | refine andT ?_); conv => whnf) | (refine iteP_intro (fun hb => ?_) (fun hb => ?_) <;> (conv => whnf)))
    refine endB ?_
    unfold relOk
    rw [decide_eq_false (by have := leF hb; omega)]
    rfl
/-- Does each number belong to its own set, and each to another's set as that to its? -/
def symOk (ms : List Nat) : Bool := (List.range ms.length).all fun a => (ms.getD a 0).testBit a && (List.range ms.length).all fun b => (ms.getD a 0).testBit b == (ms.getD b 0).testBit a
theorem symOk_iff {ms : List Nat} : symOk ms = true ↔ ∀ a < ms.length, (ms.getD a 0).testBit a = true ∧ ∀ b < ms.length, (ms.getD a 0).testBit b = (ms.getD b 0).testBit a := by
  simp [symOk, List.all_eq_true]
/-- Is it an alphabet? -/
def alphaOk (n : Int) (ds : List Int) : Bool := decide (0 ≤ n ∧ n ≤ 8) && decide ((ds.length : Int) = n) && relOk ds && symOk (ds.map Int.toNat)
theorem rel_nat {ds : List Int} (h : relOk ds = true) : ds = natI (ds.map Int.toNat) ∧ ∀ m ∈ ds.map Int.toNat, m < 2 ^ (ds.map Int.toNat).length := by
  simp only [relOk, Bool.and_eq_true, List.all_eq_true, decide_eq_true_eq] at h
  constructor
  · unfold natI
    rw [List.map_map]
    conv => lhs; rw [← List.map_id ds]
    refine List.map_congr_left fun d hd => ?_
    have := (h.2 d hd).1
    simp only [id, Function.comp]
    omega
  · intro m hm
    obtain ⟨d, hd, rfl⟩ := List.mem_map.1 hm
    have h2 := h.2 d hd
    rw [List.length_map]
    have : ((2 ^ ds.length : Nat) : Int) = 2 ^ ds.length := by simp
    omega
theorem cv_sym {ms : List Nat} (hm : ∀ m ∈ ms, m < 2 ^ ms.length) {a : Nat} (ha : a < ms.length) : ((cvN ms ms.length)[a]'(by rw [cvN_length]; exact ha) = ms[a]) ↔ ∀ b < ms.length, (ms.getD a 0).testBit b = (ms.getD b 0).testBit a := by
  have e : (cvN ms ms.length)[a]'(by rw [cvN_length]; exact ha) = maskN (fun j => (ms.getD j 0).testBit a) ms.length := by simp [cvN]
  have e2 : ms.getD a 0 = ms[a] := by rw [List.getD_eq_getElem?_getD, List.getElem?_eq_getElem ha, Option.getD_some]
  rw [e, e2]
  constructor
  · intro h b hb
    rw [← h, maskN_bit, decide_eq_true hb, Bool.true_and]
  · intro h
    rw [← maskN_self (hm _ (List.getElem_mem ha))]
    exact maskN_congr fun i hi => (h i hi).symm
set_option maxHeartbeats 16000000 in
set_option maxRecDepth 100000 in
theorem isAlpha_ret (n : Int) (ds : List Int) (hx : ds.length < 2 ^ 62) : Ret Tryd.prog G0 54 [⟨.ro, .agg [i64 n, ints ds]⟩] ⟨.one (.c (.bool (alphaOk n ds))), []⟩ := by
  (refine ret_of_den (E := en 46 [] (fun _ => [(1, 0), (25, 0), (26, 0), (27, 0)]) (fun _ => [])) tt_ok mixed Tryd.func54 rfl rfl rfl rfl ?_; refine ⟨by simp, ?_⟩)
  repeat' (first | ((first | refine opt_some (getC_rows rfl rfl (by omega)) ?_ | refine opt_some (by dsimp only; exact getC_lent rfl rfl (by omega)) ?_ | refine opt_some rfl ?_ | refine ⟨_, (by simp only [nf, nl, nm, en, ints, setC_setC, Nat.reduceAdd, Nat.reduceMul]; exact rfl), ?_⟩ | refine ⟨_, pickT rfl, ?_⟩ | refine ⟨_, rfl, ?_⟩ | refine iteP_true rfl ?_ | refine iteP_false rfl ?_ | refine iteP_true ‹_› ?_ | refine iteP_false ‹_› ?_ | refine andK ?_ | refine andA ?_ | refine andT ?_); conv => whnf) | (refine iteP_intro (fun hb => ?_) (fun hb => ?_) <;> (conv => whnf)))
  (refine ⟨_, inRange_ret _ _ _, ?_⟩; conv => whnf)
  repeat' (first | ((first | refine opt_some (getC_rows rfl rfl (by omega)) ?_ | refine opt_some (by dsimp only; exact getC_lent rfl rfl (by omega)) ?_ | refine opt_some rfl ?_ | refine ⟨_, (by simp only [nf, nl, nm, en, ints, setC_setC, Nat.reduceAdd, Nat.reduceMul]; exact rfl), ?_⟩ | refine ⟨_, pickT rfl, ?_⟩ | refine ⟨_, rfl, ?_⟩ | refine iteP_true rfl ?_ | refine iteP_false rfl ?_ | refine iteP_true ‹_› ?_ | refine iteP_false ‹_› ?_ | refine andK ?_ | refine andA ?_ | refine andT ?_); conv => whnf) | (refine iteP_intro (fun hb => ?_) (fun hb => ?_) <;> (conv => whnf)))
  · refine endB ?_
    unfold alphaOk
    rw [show decide (0 ≤ n ∧ n ≤ 8) = false by cases h : decide (0 ≤ n ∧ n ≤ 8) with | false => rfl | true => rw [h] at hb; cases hb]
    rfl
  · have hin : 0 ≤ n ∧ n ≤ 8 := by simpa using hb
    (refine ⟨_, length_ret ds, ?_⟩; conv => whnf)
    repeat (first | ((first | refine opt_some (getC_rows rfl rfl (by omega)) ?_ | refine opt_some (by dsimp only; exact getC_lent rfl rfl (by omega)) ?_ | refine opt_some rfl ?_ | refine ⟨_, (by simp only [nf, nl, nm, en, ints, setC_setC, Nat.reduceAdd, Nat.reduceMul]; exact rfl), ?_⟩ | refine ⟨_, pickT rfl, ?_⟩ | refine ⟨_, rfl, ?_⟩ | refine iteP_true rfl ?_ | refine iteP_false rfl ?_ | refine iteP_true ‹_› ?_ | refine iteP_false ‹_› ?_ | refine andK ?_ | refine andA ?_ | refine andT ?_); conv => whnf))
    refine iteP_intro (fun hb => ?_) (fun hb => ?_) <;> (conv => whnf)
    · repeat' (first | ((first | refine opt_some (getC_rows rfl rfl (by omega)) ?_ | refine opt_some (by dsimp only; exact getC_lent rfl rfl (by omega)) ?_ | refine opt_some rfl ?_ | refine ⟨_, (by simp only [nf, nl, nm, en, ints, setC_setC, Nat.reduceAdd, Nat.reduceMul]; exact rfl), ?_⟩ | refine ⟨_, pickT rfl, ?_⟩ | refine ⟨_, rfl, ?_⟩ | refine iteP_true rfl ?_ | refine iteP_false rfl ?_ | refine iteP_true ‹_› ?_ | refine iteP_false ‹_› ?_ | refine andK ?_ | refine andA ?_ | refine andT ?_); conv => whnf) | (refine iteP_intro (fun hb => ?_) (fun hb => ?_) <;> (conv => whnf)))
      refine endB ?_
      unfold alphaOk
      rw [decide_eq_false (show ¬ (ds.length : Int) = n from neT hb)]
      simp
    · have hln : (ds.length : Int) = n := neF hb
      repeat (first | ((first | refine opt_some (getC_rows rfl rfl (by omega)) ?_ | refine opt_some (by dsimp only; exact getC_lent rfl rfl (by omega)) ?_ | refine opt_some rfl ?_ | refine ⟨_, (by simp only [nf, nl, nm, en, ints, setC_setC, Nat.reduceAdd, Nat.reduceMul]; exact rfl), ?_⟩ | refine ⟨_, pickT rfl, ?_⟩ | refine ⟨_, rfl, ?_⟩ | refine iteP_true rfl ?_ | refine iteP_false rfl ?_ | refine iteP_true ‹_› ?_ | refine iteP_false ‹_› ?_ | refine andK ?_ | refine andA ?_ | refine andT ?_); conv => whnf))
      (refine ⟨_, isRel_ret ds hx, ?_⟩; conv => whnf)
      repeat (first | ((first | refine opt_some (getC_rows rfl rfl (by omega)) ?_ | refine opt_some (by dsimp only; exact getC_lent rfl rfl (by omega)) ?_ | refine opt_some rfl ?_ | refine ⟨_, (by simp only [nf, nl, nm, en, ints, setC_setC, Nat.reduceAdd, Nat.reduceMul]; exact rfl), ?_⟩ | refine ⟨_, pickT rfl, ?_⟩ | refine ⟨_, rfl, ?_⟩ | refine iteP_true rfl ?_ | refine iteP_false rfl ?_ | refine iteP_true ‹_› ?_ | refine iteP_false ‹_› ?_ | refine andK ?_ | refine andA ?_ | refine andT ?_); conv => whnf))
      refine iteP_intro (fun hr => ?_) (fun hr => ?_) <;> (conv => whnf)
      · repeat' (first | ((first | refine opt_some (getC_rows rfl rfl (by omega)) ?_ | refine opt_some (by dsimp only; exact getC_lent rfl rfl (by omega)) ?_ | refine opt_some rfl ?_ | refine ⟨_, (by simp only [nf, nl, nm, en, ints, setC_setC, Nat.reduceAdd, Nat.reduceMul]; exact rfl), ?_⟩ | refine ⟨_, pickT rfl, ?_⟩ | refine ⟨_, rfl, ?_⟩ | refine iteP_true rfl ?_ | refine iteP_false rfl ?_ | refine iteP_true ‹_› ?_ | refine iteP_false ‹_› ?_ | refine andK ?_ | refine andA ?_ | refine andT ?_); conv => whnf) | (refine iteP_intro (fun hb => ?_) (fun hb => ?_) <;> (conv => whnf)))
        refine endB ?_
        unfold alphaOk
        rw [show relOk ds = false by simpa using hr]
        simp
      · have hrel : relOk ds = true := by simpa using hr
        obtain ⟨hds, hm⟩ := rel_nat hrel
        generalize hms : ds.map Int.toNat = ms at hds hm
        have hl : ms.length = ds.length := by rw [← hms, List.length_map]
        repeat (first | ((first | refine opt_some (getC_rows rfl rfl (by omega)) ?_ | refine opt_some (by dsimp only; exact getC_lent rfl rfl (by omega)) ?_ | refine opt_some rfl ?_ | refine ⟨_, (by simp only [nf, nl, nm, en, ints, setC_setC, Nat.reduceAdd, Nat.reduceMul]; exact rfl), ?_⟩ | refine ⟨_, pickT rfl, ?_⟩ | refine ⟨_, rfl, ?_⟩ | refine iteP_true rfl ?_ | refine iteP_false rfl ?_ | refine iteP_true ‹_› ?_ | refine iteP_false ‹_› ?_ | refine andK ?_ | refine andA ?_ | refine andT ?_); conv => whnf))
        subst hds
        (refine ⟨_, converse_ret ms (by omega) hm, ?_⟩; conv => whnf)
        repeat (first | ((first | refine opt_some (getC_rows rfl rfl (by omega)) ?_ | refine opt_some (by dsimp only; exact getC_lent rfl rfl (by omega)) ?_ | refine opt_some rfl ?_ | refine ⟨_, (by simp only [nf, nl, nm, en, ints, setC_setC, Nat.reduceAdd, Nat.reduceMul]; exact rfl), ?_⟩ | refine ⟨_, pickT rfl, ?_⟩ | refine ⟨_, rfl, ?_⟩ | refine iteP_true rfl ?_ | refine iteP_false rfl ?_ | refine iteP_true ‹_› ?_ | refine iteP_false ‹_› ?_ | refine andK ?_ | refine andA ?_ | refine andT ?_); conv => whnf))
        refine ⟨fun k vs => ∃ i : Nat, i ≤ ms.length ∧ (∀ a < i, (ms.getD a 0).testBit a = true ∧ ∀ b < ms.length, (ms.getD a 0).testBit b = (ms.getD b 0).testBit a) ∧
            vs = [.one (.ptr [i64 n, .shd (ints (natI ms))]), .one (ints (natI (cvN ms ms.length))), .one (i64 (natI (cvN ms ms.length)).length), .one (i64 i)] ∧ k = ms.length - i, rfl, ⟨_, 0, by omega, by simp, rfl, rfl⟩, ?_⟩
        rintro k vs ⟨i, hi, hs, rfl, rfl⟩
        have hcl := natI_length (cvN ms ms.length)
        have hcl2 := cvN_length ms ms.length
        repeat (first | ((first | refine opt_some (getC_rows rfl rfl (by omega)) ?_ | refine opt_some (by dsimp only; exact getC_lent rfl rfl (by omega)) ?_ | refine opt_some rfl ?_ | refine ⟨_, (by simp only [nf, nl, nm, en, ints, setC_setC, Nat.reduceAdd, Nat.reduceMul]; exact rfl), ?_⟩ | refine ⟨_, pickT rfl, ?_⟩ | refine ⟨_, rfl, ?_⟩ | refine iteP_true rfl ?_ | refine iteP_false rfl ?_ | refine iteP_true ‹_› ?_ | refine iteP_false ‹_› ?_ | refine andK ?_ | refine andA ?_ | refine andT ?_); conv => whnf))
        refine iteP_intro (fun hb => ?_) (fun hb => ?_) <;> (conv => whnf)
        · have hi' : i < ms.length := by have := leT hb; omega
          have hgd : ms.getD i 0 = ms[i] := by rw [List.getD_eq_getElem?_getD, List.getElem?_eq_getElem hi', Option.getD_some]
          have hg1 : (natI (cvN ms ms.length))[i]'(by omega) = (((cvN ms ms.length)[i]'(by omega) : Nat) : Int) := natI_get _
          have hg2 : (natI ms)[i]'(by omega) = ((ms[i] : Nat) : Int) := natI_get _
          repeat (first | ((first | refine opt_some (getC_rows rfl rfl (by omega)) ?_ | refine opt_some (by dsimp only; exact getC_lent rfl rfl (by omega)) ?_ | refine opt_some rfl ?_ | refine ⟨_, (by simp only [nf, nl, nm, en, ints, setC_setC, Nat.reduceAdd, Nat.reduceMul, hg1, hg2]; exact rfl), ?_⟩ | refine ⟨_, pickT rfl, ?_⟩ | refine ⟨_, rfl, ?_⟩ | refine iteP_true rfl ?_ | refine iteP_false rfl ?_ | refine iteP_true ‹_› ?_ | refine iteP_false ‹_› ?_ | refine andK ?_ | refine andA ?_ | refine andT ?_); conv => whnf))
          refine iteP_intro (fun hc => ?_) (fun hc => ?_) <;> (conv => whnf)
          · repeat' (first | ((first | refine opt_some (getC_rows rfl rfl (by omega)) ?_ | refine opt_some (by dsimp only; exact getC_lent rfl rfl (by omega)) ?_ | refine opt_some rfl ?_ | refine ⟨_, (by simp only [nf, nl, nm, en, ints, setC_setC, Nat.reduceAdd, Nat.reduceMul, hg1, hg2]; exact rfl), ?_⟩ | refine ⟨_, pickT rfl, ?_⟩ | refine ⟨_, rfl, ?_⟩ | refine iteP_true rfl ?_ | refine iteP_false rfl ?_ | refine iteP_true ‹_› ?_ | refine iteP_false ‹_› ?_ | refine andK ?_ | refine andA ?_ | refine andT ?_); conv => whnf) | (refine iteP_intro (fun hb => ?_) (fun hb => ?_) <;> (conv => whnf)))
            refine endB ?_
            have hne : ¬ symOk (List.map Int.toNat (natI ms)) = true := fun h => by
              rw [hms, symOk_iff] at h
              exact neT hc (congrArg _ ((cv_sym hm hi').2 (h i hi').2))
            unfold alphaOk
            rw [show symOk (List.map Int.toNat (natI ms)) = false by simpa using hne, Bool.and_false]
          · have hce : (cvN ms ms.length)[i]'(by omega) = ms[i] := Int.natCast_inj.1 (neF hc)
            have hbt := (cv_sym hm hi').1 hce
            have hcc : (((ms[i] : Nat) : Int) != ((ms[i] : Nat) : Int)) = false := by simp
            have hlt : ms[i] < 2 ^ 63 := Nat.lt_of_lt_of_le (hm _ (List.getElem_mem hi')) (Nat.pow_le_pow_right (by decide) (by omega))
            repeat (first | ((first | refine opt_some (getC_rows rfl rfl (by omega)) ?_ | refine opt_some (by dsimp only; exact getC_lent rfl rfl (by omega)) ?_ | refine opt_some rfl ?_ | refine ⟨_, (by simp only [nf, nl, nm, en, ints, setC_setC, Nat.reduceAdd, Nat.reduceMul, hg1, hg2, hce]; exact rfl), ?_⟩ | refine ⟨_, pickT rfl, ?_⟩ | refine ⟨_, rfl, ?_⟩ | refine iteP_true rfl ?_ | refine iteP_false rfl ?_ | refine iteP_true ‹_› ?_ | refine iteP_false ‹_› ?_ | refine andK ?_ | refine andA ?_ | refine andT ?_); conv => whnf))
            (refine ⟨_, has_ret ms[i] i hlt (by omega), ?_⟩; conv => whnf)
            repeat (first | ((first | refine opt_some (getC_rows rfl rfl (by omega)) ?_ | refine opt_some (by dsimp only; exact getC_lent rfl rfl (by omega)) ?_ | refine opt_some rfl ?_ | refine ⟨_, (by simp only [nf, nl, nm, en, ints, setC_setC, Nat.reduceAdd, Nat.reduceMul, hg1, hg2, hce]; exact rfl), ?_⟩ | refine ⟨_, pickT rfl, ?_⟩ | refine ⟨_, rfl, ?_⟩ | refine iteP_true rfl ?_ | refine iteP_false rfl ?_ | refine iteP_true ‹_› ?_ | refine iteP_false ‹_› ?_ | refine andK ?_ | refine andA ?_ | refine andT ?_); conv => whnf))
            refine iteP_intro (fun hh => ?_) (fun hh => ?_) <;> (conv => whnf)
            · repeat' (first | ((first | refine opt_some (getC_rows rfl rfl (by omega)) ?_ | refine opt_some (by dsimp only; exact getC_lent rfl rfl (by omega)) ?_ | refine opt_some rfl ?_ | refine ⟨_, (by simp only [nf, nl, nm, en, ints, setC_setC, Nat.reduceAdd, Nat.reduceMul, hg1, hg2]; exact rfl), ?_⟩ | refine ⟨_, pickT rfl, ?_⟩ | refine ⟨_, rfl, ?_⟩ | refine iteP_true rfl ?_ | refine iteP_false rfl ?_ | refine iteP_true ‹_› ?_ | refine iteP_false ‹_› ?_ | refine andK ?_ | refine andA ?_ | refine andT ?_); conv => whnf) | (refine iteP_intro (fun hb => ?_) (fun hb => ?_) <;> (conv => whnf)))
              refine endB ?_
              have hne : ¬ symOk (List.map Int.toNat (natI ms)) = true := fun h => by
                rw [hms, symOk_iff] at h
                have := (h i hi').1
                rw [hgd] at this
                rw [this] at hh
                cases hh
              unfold alphaOk
              rw [show symOk (List.map Int.toNat (natI ms)) = false by simpa using hne, Bool.and_false]
            · repeat (first | ((first | refine opt_some (getC_rows rfl rfl (by omega)) ?_ | refine opt_some (by dsimp only; exact getC_lent rfl rfl (by omega)) ?_ | refine opt_some rfl ?_ | refine ⟨_, (by simp only [nf, nl, nm, en, ints, setC_setC, Nat.reduceAdd, Nat.reduceMul, hg1, hg2, hce]; exact rfl), ?_⟩ | refine ⟨_, pickT rfl, ?_⟩ | refine ⟨_, rfl, ?_⟩ | refine iteP_true rfl ?_ | refine iteP_false rfl ?_ | refine iteP_true ‹_› ?_ | refine iteP_false ‹_› ?_ | refine andK ?_ | refine andA ?_ | refine andT ?_); conv => whnf))
              refine ⟨_, ?_, i + 1, hi', fun a ha => ?_, by rw [wrap_succ (by omega)]; rfl, rfl⟩
              · omega
              · rcases Nat.lt_succ_iff_lt_or_eq.1 ha with h | rfl
                · exact hs a h
                · exact ⟨by rw [hgd]; simpa using hh, hbt⟩
        · obtain rfl : i = ms.length := by have := leF hb; omega
          repeat' (first | ((first | refine opt_some (getC_rows rfl rfl (by omega)) ?_ | refine opt_some (by dsimp only; exact getC_lent rfl rfl (by omega)) ?_ | refine opt_some rfl ?_ | refine ⟨_, (by simp only [nf, nl, nm, en, ints, setC_setC, Nat.reduceAdd, Nat.reduceMul]; exact rfl), ?_⟩ | refine ⟨_, pickT rfl, ?_⟩ | refine ⟨_, rfl, ?_⟩ | refine iteP_true rfl ?_ | refine iteP_false rfl ?_ | refine iteP_true ‹_› ?_ | refine iteP_false ‹_› ?_ | refine andK ?_ | refine andA ?_ | refine andT ?_); conv => whnf) | (refine iteP_intro (fun hb => ?_) (fun hb => ?_) <;> (conv => whnf)))
          refine endB ?_
          unfold alphaOk
          rw [decide_eq_true hin, decide_eq_true hln, hrel, hms, symOk_iff.2 hs]
          rfl
set_option maxHeartbeats 16000000 in
set_option maxRecDepth 100000 in
theorem l01One_ret (i : Nat) (hi : i < 63) : Ret Tryd.prog G0 108 [⟨.ro, .one (i64 i)⟩] ⟨.one (i64 ((2 ^ i : Nat) : Int)), []⟩ := by
  (refine ret_of_den (E := en 6 [] (fun _ => []) (fun _ => [])) tt_ok mixed Tryd.func108 rfl rfl rfl rfl ?_; refine ⟨by simp, ?_⟩)
  have hw : IntKind.u64.wrap (i : Int) = i := wrap_u64 (by omega) (by omega)
  repeat' (first | ((first | refine opt_some (getC_rows rfl rfl (by omega)) ?_ | refine opt_some (by dsimp only; exact getC_lent rfl rfl (by omega)) ?_ | refine opt_some rfl ?_ | refine ⟨_, (by simp only [nf, nl, nm, en, ints, setC_setC, Nat.reduceAdd, Nat.reduceMul, hw]; exact rfl), ?_⟩ | refine ⟨_, pickT rfl, ?_⟩ | refine ⟨_, rfl, ?_⟩ | refine iteP_true rfl ?_ | refine iteP_false rfl ?_ | refine iteP_true ‹_› ?_ | refine iteP_false ‹_› ?_ | refine andK ?_ | refine andA ?_ | refine andT ?_); conv => whnf) | (refine iteP_intro (fun hb => ?_) (fun hb => ?_) <;> (conv => whnf)))
  refine endI ?_
  have hp := pow_i64 hi
  have h1 := Nat.two_pow_pos i
  rw [show min (i : Int).toNat IntKind.i64.bits = i by rw [Int.toNat_natCast]; exact Nat.min_eq_left (by simp [IntKind.bits]; omega), Int.one_mul, show (2 : Int) ^ i = ((2 ^ i : Nat) : Int) by simp]
  exact wrap_nat (by omega)
set_option maxHeartbeats 16000000 in
set_option maxRecDepth 100000 in
theorem l01Full_ret (i : Nat) (hi : i < 63) : Ret Tryd.prog G0 97 [⟨.ro, .one (i64 i)⟩] ⟨.one (i64 (((2 ^ i : Nat) : Int) - 1)), []⟩ := by
  (refine ret_of_den (E := en 6 [] (fun _ => []) (fun _ => [])) tt_ok mixed Tryd.func97 rfl rfl rfl rfl ?_; refine ⟨by simp, ?_⟩)
  repeat' (first | ((first | refine opt_some (getC_rows rfl rfl (by omega)) ?_ | refine opt_some (by dsimp only; exact getC_lent rfl rfl (by omega)) ?_ | refine opt_some rfl ?_ | refine ⟨_, (by simp only [nf, nl, nm, en, ints, setC_setC, Nat.reduceAdd, Nat.reduceMul]; exact rfl), ?_⟩ | refine ⟨_, pickT rfl, ?_⟩ | refine ⟨_, rfl, ?_⟩ | refine iteP_true rfl ?_ | refine iteP_false rfl ?_ | refine iteP_true ‹_› ?_ | refine iteP_false ‹_› ?_ | refine andK ?_ | refine andA ?_ | refine andT ?_); conv => whnf) | (refine iteP_intro (fun hb => ?_) (fun hb => ?_) <;> (conv => whnf)))
  (refine ⟨_, l01One_ret i hi, ?_⟩; conv => whnf)
  repeat' (first | ((first | refine opt_some (getC_rows rfl rfl (by omega)) ?_ | refine opt_some (by dsimp only; exact getC_lent rfl rfl (by omega)) ?_ | refine opt_some rfl ?_ | refine ⟨_, (by simp only [nf, nl, nm, en, ints, setC_setC, Nat.reduceAdd, Nat.reduceMul]; exact rfl), ?_⟩ | refine ⟨_, pickT rfl, ?_⟩ | refine ⟨_, rfl, ?_⟩ | refine iteP_true rfl ?_ | refine iteP_false rfl ?_ | refine iteP_true ‹_› ?_ | refine iteP_false ‹_› ?_ | refine andK ?_ | refine andA ?_ | refine andT ?_); conv => whnf) | (refine iteP_intro (fun hb => ?_) (fun hb => ?_) <;> (conv => whnf)))
  refine endI (wrap_i64 ?_ ?_)
  · have h1 := Nat.two_pow_pos i; omega
  · have hp := pow_i64 hi; omega
set_option maxHeartbeats 16000000 in
set_option maxRecDepth 100000 in
theorem l01Masks_ret (n : Nat) (ds : List Int) (hn : n < 63) (hx : ds.length < 2 ^ 62) : Ret Tryd.prog G0 96 [⟨.ro, .one (i64 n)⟩, ⟨.ro, .one (ints ds)⟩] ⟨.one (.c (.bool (ds.all fun d => decide (0 ≤ d ∧ d ≤ ((2 ^ n : Nat) : Int) - 1)))), []⟩ := by
  (refine ret_of_den (E := en 20 [] (fun _ => [(5, 0), (0, 0), (1, 1)]) (fun _ => [])) tt_ok mixed Tryd.func96 rfl rfl rfl rfl ?_; refine ⟨by simp, ?_⟩)
  repeat' (first | ((first | refine opt_some (getC_rows rfl rfl (by omega)) ?_ | refine opt_some (by dsimp only; exact getC_lent rfl rfl (by omega)) ?_ | refine opt_some rfl ?_ | refine ⟨_, (by simp only [nf, nl, nm, en, ints, setC_setC, Nat.reduceAdd, Nat.reduceMul]; exact rfl), ?_⟩ | refine ⟨_, pickT rfl, ?_⟩ | refine ⟨_, rfl, ?_⟩ | refine iteP_true rfl ?_ | refine iteP_false rfl ?_ | refine iteP_true ‹_› ?_ | refine iteP_false ‹_› ?_ | refine andK ?_ | refine andA ?_ | refine andT ?_); conv => whnf) | (refine iteP_intro (fun hb => ?_) (fun hb => ?_) <;> (conv => whnf)))
  refine ⟨fun k vs => ∃ i : Nat, i ≤ ds.length ∧ (∀ d ∈ ds.take i, 0 ≤ d ∧ d ≤ ((2 ^ n : Nat) : Int) - 1) ∧ vs = [.one (i64 i), .one (i64 n), .one (.shd (ints ds))] ∧ k = ds.length - i, rfl, ⟨_, 0, by omega, by simp, rfl, rfl⟩, ?_⟩
  rintro k vs ⟨i, hi, hs, rfl, rfl⟩
  repeat' (first | ((first | refine opt_some (getC_rows rfl rfl (by omega)) ?_ | refine opt_some (by dsimp only; exact getC_lent rfl rfl (by omega)) ?_ | refine opt_some rfl ?_ | refine ⟨_, (by simp only [nf, nl, nm, en, ints, setC_setC, Nat.reduceAdd, Nat.reduceMul]; exact rfl), ?_⟩ | refine ⟨_, pickT rfl, ?_⟩ | refine ⟨_, rfl, ?_⟩ | refine iteP_true rfl ?_ | refine iteP_false rfl ?_ | refine iteP_true ‹_› ?_ | refine iteP_false ‹_› ?_ | refine andK ?_ | refine andA ?_ | refine andT ?_); conv => whnf) | (refine iteP_intro (fun hb => ?_) (fun hb => ?_) <;> (conv => whnf)))
  · have hi' : i < ds.length := ltT hb
    (refine ⟨_, l01Full_ret n hn, ?_⟩; conv => whnf)
    repeat' (first | ((first | refine opt_some (getC_rows rfl rfl (by omega)) ?_ | refine opt_some (by dsimp only; exact getC_lent rfl rfl (by omega)) ?_ | refine opt_some rfl ?_ | refine ⟨_, (by simp only [nf, nl, nm, en, ints, setC_setC, Nat.reduceAdd, Nat.reduceMul]; exact rfl), ?_⟩ | refine ⟨_, pickT rfl, ?_⟩ | refine ⟨_, rfl, ?_⟩ | refine iteP_true rfl ?_ | refine iteP_false rfl ?_ | refine iteP_true ‹_› ?_ | refine iteP_false ‹_› ?_ | refine andK ?_ | refine andA ?_ | refine andT ?_); conv => whnf) | (refine iteP_intro (fun hb => ?_) (fun hb => ?_) <;> (conv => whnf)))
    (refine ⟨_, l01In_ret _ _ _, ?_⟩; conv => whnf)
    repeat' (first | ((first | refine opt_some (getC_rows rfl rfl (by omega)) ?_ | refine opt_some (by dsimp only; exact getC_lent rfl rfl (by omega)) ?_ | refine opt_some rfl ?_ | refine ⟨_, (by simp only [nf, nl, nm, en, ints, setC_setC, Nat.reduceAdd, Nat.reduceMul]; exact rfl), ?_⟩ | refine ⟨_, pickT rfl, ?_⟩ | refine ⟨_, rfl, ?_⟩ | refine iteP_true rfl ?_ | refine iteP_false rfl ?_ | refine iteP_true ‹_› ?_ | refine iteP_false ‹_› ?_ | refine andK ?_ | refine andA ?_ | refine andT ?_); conv => whnf) | (refine iteP_intro (fun hb => ?_) (fun hb => ?_) <;> (conv => whnf)))
    · refine endB ?_
      symm
      rw [List.all_eq_false]
      refine ⟨ds[i], List.getElem_mem _, ?_⟩
      cases h : decide (0 ≤ ds[i] ∧ ds[i] ≤ ((2 ^ n : Nat) : Int) - 1) with
      | false => simp
      | true => rw [h] at hb; cases hb
    · refine ⟨_, ?_, i + 1, hi', fun d hd => ?_, by rw [wrap_succ (by omega)]; rfl, rfl⟩
      · omega
      · rw [List.take_succ_eq_append_getElem hi'] at hd
        rcases List.mem_append.1 hd with h | h
        · exact hs d h
        · obtain rfl := List.mem_singleton.1 h
          simpa using hb
  · obtain rfl : i = ds.length := Nat.le_antisymm hi (ltF hb)
    refine endB ?_
    symm
    rw [List.take_length] at hs
    exact List.all_eq_true.2 fun d hd => decide_eq_true (hs d hd)
set_option maxHeartbeats 16000000 in
set_option maxRecDepth 100000 in
theorem l02Is_ret (n : Int) (ds : List Int) (hx : ds.length < 2 ^ 62) : Ret Tryd.prog G0 49 [⟨.ro, .agg [i64 n, ints ds]⟩] ⟨.one (.c (.bool (alphaOk n ds))), []⟩ := by
  (refine ret_of_den (E := en 60 [] (fun | 4 => [(1, 0), (3, 0)] | 9 => [(1, 0), (3, 0), (4, 0)] | _ => []) (fun _ => [])) tt_ok mixed Tryd.func49 rfl rfl rfl rfl ?_; refine ⟨by simp, ?_⟩)
  repeat' (first | ((first | refine opt_some (getC_rows rfl rfl (by omega)) ?_ | refine opt_some (by dsimp only; exact getC_lent rfl rfl (by omega)) ?_ | refine opt_some rfl ?_ | refine ⟨_, (by simp only [nf, nl, nm, en, ints, setC_setC, Nat.reduceAdd, Nat.reduceMul]; exact rfl), ?_⟩ | refine ⟨_, pickT rfl, ?_⟩ | refine ⟨_, rfl, ?_⟩ | refine iteP_true rfl ?_ | refine iteP_false rfl ?_ | refine iteP_true ‹_› ?_ | refine iteP_false ‹_› ?_ | refine andK ?_ | refine andA ?_ | refine andT ?_); conv => whnf) | (refine iteP_intro (fun hb => ?_) (fun hb => ?_) <;> (conv => whnf)))
  (refine ⟨_, l01In_ret _ _ _, ?_⟩; conv => whnf)
  repeat' (first | ((first | refine opt_some (getC_rows rfl rfl (by omega)) ?_ | refine opt_some (by dsimp only; exact getC_lent rfl rfl (by omega)) ?_ | refine opt_some rfl ?_ | refine ⟨_, (by simp only [nf, nl, nm, en, ints, setC_setC, Nat.reduceAdd, Nat.reduceMul]; exact rfl), ?_⟩ | refine ⟨_, pickT rfl, ?_⟩ | refine ⟨_, rfl, ?_⟩ | refine iteP_true rfl ?_ | refine iteP_false rfl ?_ | refine iteP_true ‹_› ?_ | refine iteP_false ‹_› ?_ | refine andK ?_ | refine andA ?_ | refine andT ?_); conv => whnf) | (refine iteP_intro (fun hb => ?_) (fun hb => ?_) <;> (conv => whnf)))
  · refine endB ?_
    unfold alphaOk
    rw [show decide (0 ≤ n ∧ n ≤ 8) = false by cases h : decide (0 ≤ n ∧ n ≤ 8) with | false => rfl | true => rw [h] at hb; cases hb]
    rfl
  · refine endB ?_
    unfold alphaOk
    rw [decide_eq_false (show ¬ (ds.length : Int) = n from neT hb)]
    simp
  · have hin : 0 ≤ n ∧ n ≤ 8 := by simpa using ‹(!decide (0 ≤ n ∧ n ≤ 8)) = false›
    have hln : (ds.length : Int) = n := neF hb
    subst hln
    (refine ⟨_, l01Masks_ret ds.length ds (by omega) hx, ?_⟩; conv => whnf)
    repeat (first | ((first | refine opt_some (getC_rows rfl rfl (by omega)) ?_ | refine opt_some (by dsimp only; exact getC_lent rfl rfl (by omega)) ?_ | refine opt_some rfl ?_ | refine ⟨_, (by simp only [nf, nl, nm, en, ints, setC_setC, Nat.reduceAdd, Nat.reduceMul]; exact rfl), ?_⟩ | refine ⟨_, pickT rfl, ?_⟩ | refine ⟨_, rfl, ?_⟩ | refine iteP_true rfl ?_ | refine iteP_false rfl ?_ | refine iteP_true ‹_› ?_ | refine iteP_false ‹_› ?_ | refine andK ?_ | refine andA ?_ | refine andT ?_); conv => whnf))
    refine iteP_intro (fun hr => ?_) (fun hr => ?_) <;> (conv => whnf)
    · repeat' (first | ((first | refine opt_some (getC_rows rfl rfl (by omega)) ?_ | refine opt_some (by dsimp only; exact getC_lent rfl rfl (by omega)) ?_ | refine opt_some rfl ?_ | refine ⟨_, (by simp only [nf, nl, nm, en, ints, setC_setC, Nat.reduceAdd, Nat.reduceMul]; exact rfl), ?_⟩ | refine ⟨_, pickT rfl, ?_⟩ | refine ⟨_, rfl, ?_⟩ | refine iteP_true rfl ?_ | refine iteP_false rfl ?_ | refine iteP_true ‹_› ?_ | refine iteP_false ‹_› ?_ | refine andK ?_ | refine andA ?_ | refine andT ?_); conv => whnf) | (refine iteP_intro (fun hb => ?_) (fun hb => ?_) <;> (conv => whnf)))
      refine endB ?_
      have : relOk ds = false := by
        unfold relOk
        rw [show ((2 : Int) ^ ds.length) = ((2 ^ ds.length : Nat) : Int) by simp]
        rw [Bool.not_eq_true'] at hr
        rw [hr, Bool.and_false]
      unfold alphaOk
      rw [this]
      simp
    · have hrel : relOk ds = true := by
        unfold relOk
        rw [show ((2 : Int) ^ ds.length) = ((2 ^ ds.length : Nat) : Int) by simp]
        rw [Bool.not_eq_false'] at hr
        rw [hr, decide_eq_true (by omega)]
        rfl
      obtain ⟨hds, hm⟩ := rel_nat hrel
      generalize hms : ds.map Int.toNat = ms at hds hm
      have hl : ms.length = ds.length := by rw [← hms, List.length_map]
      have hfin : ∀ b, symOk ms = b → alphaOk (ds.length : Int) ds = b := fun b hb => by
        unfold alphaOk
        rw [decide_eq_true hin, hrel, hms, hb]
        simp
      repeat (first | ((first | refine opt_some (getC_rows rfl rfl (by omega)) ?_ | refine opt_some (by dsimp only; exact getC_lent rfl rfl (by omega)) ?_ | refine opt_some rfl ?_ | refine ⟨_, (by simp only [nf, nl, nm, en, ints, setC_setC, Nat.reduceAdd, Nat.reduceMul]; exact rfl), ?_⟩ | refine ⟨_, pickT rfl, ?_⟩ | refine ⟨_, rfl, ?_⟩ | refine iteP_true rfl ?_ | refine iteP_false rfl ?_ | refine iteP_true ‹_› ?_ | refine iteP_false ‹_› ?_ | refine andK ?_ | refine andA ?_ | refine andT ?_); conv => whnf))
      subst hds
      have hm63 : ∀ (a : Nat) (h : a < ms.length), ms[a] < 2 ^ 63 := fun a h => Nat.lt_of_lt_of_le (hm _ (List.getElem_mem h)) (Nat.pow_le_pow_right (by decide) (by omega))
      have hgd : ∀ (a : Nat) (h : a < ms.length), ms.getD a 0 = ms[a] := fun a h => by rw [List.getD_eq_getElem?_getD, List.getElem?_eq_getElem h, Option.getD_some]
      refine ⟨fun k vs => ∃ i : Nat, i ≤ ms.length ∧ (∀ a < i, (ms.getD a 0).testBit a = true ∧ ∀ b < ms.length, (ms.getD a 0).testBit b = (ms.getD b 0).testBit a) ∧
          vs = [.one (.ptr [i64 (natI ms).length, .shd (ints (natI ms))]), .one (i64 i)] ∧ k = ms.length - i, rfl, ⟨_, 0, by omega, by simp, rfl, rfl⟩, ?_⟩
      rintro k vs ⟨i, hi, hs, rfl, rfl⟩
      repeat (first | ((first | refine opt_some (getC_rows rfl rfl (by omega)) ?_ | refine opt_some (by dsimp only; exact getC_lent rfl rfl (by omega)) ?_ | refine opt_some rfl ?_ | refine ⟨_, (by simp only [nf, nl, nm, en, ints, setC_setC, Nat.reduceAdd, Nat.reduceMul]; exact rfl), ?_⟩ | refine ⟨_, pickT rfl, ?_⟩ | refine ⟨_, rfl, ?_⟩ | refine iteP_true rfl ?_ | refine iteP_false rfl ?_ | refine iteP_true ‹_› ?_ | refine iteP_false ‹_› ?_ | refine andK ?_ | refine andA ?_ | refine andT ?_); conv => whnf))
      refine iteP_intro (fun hb => ?_) (fun hb => ?_) <;> (conv => whnf)
      · have hi' : i < ms.length := by have := leT hb; omega
        have hg2 : (natI ms)[i]'(by omega) = ((ms[i] : Nat) : Int) := natI_get _
        repeat (first | ((first | refine opt_some (getC_rows rfl rfl (by omega)) ?_ | refine opt_some (by dsimp only; exact getC_lent rfl rfl (by omega)) ?_ | refine opt_some rfl ?_ | refine ⟨_, (by simp only [nf, nl, nm, en, ints, setC_setC, Nat.reduceAdd, Nat.reduceMul, hg2]; exact rfl), ?_⟩ | refine ⟨_, pickT rfl, ?_⟩ | refine ⟨_, rfl, ?_⟩ | refine iteP_true rfl ?_ | refine iteP_false rfl ?_ | refine iteP_true ‹_› ?_ | refine iteP_false ‹_› ?_ | refine andK ?_ | refine andA ?_ | refine andT ?_); conv => whnf))
        (refine ⟨_, l01Bit_ret ms[i] i (hm63 i hi') (by omega), ?_⟩; conv => whnf)
        repeat (first | ((first | refine opt_some (getC_rows rfl rfl (by omega)) ?_ | refine opt_some (by dsimp only; exact getC_lent rfl rfl (by omega)) ?_ | refine opt_some rfl ?_ | refine ⟨_, (by simp only [nf, nl, nm, en, ints, setC_setC, Nat.reduceAdd, Nat.reduceMul]; exact rfl), ?_⟩ | refine ⟨_, pickT rfl, ?_⟩ | refine ⟨_, rfl, ?_⟩ | refine iteP_true rfl ?_ | refine iteP_false rfl ?_ | refine iteP_true ‹_› ?_ | refine iteP_false ‹_› ?_ | refine andK ?_ | refine andA ?_ | refine andT ?_); conv => whnf))
        refine iteP_intro (fun hh => ?_) (fun hh => ?_) <;> (conv => whnf)
        · repeat' (first | ((first | refine opt_some (getC_rows rfl rfl (by omega)) ?_ | refine opt_some (by dsimp only; exact getC_lent rfl rfl (by omega)) ?_ | refine opt_some rfl ?_ | refine ⟨_, (by simp only [nf, nl, nm, en, ints, setC_setC, Nat.reduceAdd, Nat.reduceMul]; exact rfl), ?_⟩ | refine ⟨_, pickT rfl, ?_⟩ | refine ⟨_, rfl, ?_⟩ | refine iteP_true rfl ?_ | refine iteP_false rfl ?_ | refine iteP_true ‹_› ?_ | refine iteP_false ‹_› ?_ | refine andK ?_ | refine andA ?_ | refine andT ?_); conv => whnf) | (refine iteP_intro (fun hb => ?_) (fun hb => ?_) <;> (conv => whnf)))
          refine endB (hfin false ?_).symm
          rw [Bool.eq_false_iff]
          intro h
          have := (symOk_iff.1 h i hi').1
          rw [hgd i hi'] at this
          rw [this] at hh
          cases hh
        · repeat (first | ((first | refine opt_some (getC_rows rfl rfl (by omega)) ?_ | refine opt_some (by dsimp only; exact getC_lent rfl rfl (by omega)) ?_ | refine opt_some rfl ?_ | refine ⟨_, (by simp only [nf, nl, nm, en, ints, setC_setC, Nat.reduceAdd, Nat.reduceMul]; exact rfl), ?_⟩ | refine ⟨_, pickT rfl, ?_⟩ | refine ⟨_, rfl, ?_⟩ | refine iteP_true rfl ?_ | refine iteP_false rfl ?_ | refine iteP_true ‹_› ?_ | refine iteP_false ‹_› ?_ | refine andK ?_ | refine andA ?_ | refine andT ?_); conv => whnf))
          refine ⟨fun k vs => ∃ j : Nat, j ≤ ms.length ∧ (∀ b < j, (ms.getD i 0).testBit b = (ms.getD b 0).testBit i) ∧
              vs = [.one (.ptr [i64 (natI ms).length, .shd (ints (natI ms))]), .one (i64 i), .one (i64 j)] ∧ k = ms.length - j, rfl, ⟨_, 0, by omega, by simp, rfl, rfl⟩, ?_⟩
          rintro k vs ⟨j, hj, hsj, rfl, rfl⟩
          repeat (first | ((first | refine opt_some (getC_rows rfl rfl (by omega)) ?_ | refine opt_some (by dsimp only; exact getC_lent rfl rfl (by omega)) ?_ | refine opt_some rfl ?_ | refine ⟨_, (by simp only [nf, nl, nm, en, ints, setC_setC, Nat.reduceAdd, Nat.reduceMul]; exact rfl), ?_⟩ | refine ⟨_, pickT rfl, ?_⟩ | refine ⟨_, rfl, ?_⟩ | refine iteP_true rfl ?_ | refine iteP_false rfl ?_ | refine iteP_true ‹_› ?_ | refine iteP_false ‹_› ?_ | refine andK ?_ | refine andA ?_ | refine andT ?_); conv => whnf))
          refine iteP_intro (fun hb => ?_) (fun hb => ?_) <;> (conv => whnf)
          · have hj' : j < ms.length := by have := leT hb; omega
            have hg3 : (natI ms)[j]'(by omega) = ((ms[j] : Nat) : Int) := natI_get _
            repeat (first | ((first | refine opt_some (getC_rows rfl rfl (by omega)) ?_ | refine opt_some (by dsimp only; exact getC_lent rfl rfl (by omega)) ?_ | refine opt_some rfl ?_ | refine ⟨_, (by simp only [nf, nl, nm, en, ints, setC_setC, Nat.reduceAdd, Nat.reduceMul, hg2, hg3]; exact rfl), ?_⟩ | refine ⟨_, pickT rfl, ?_⟩ | refine ⟨_, rfl, ?_⟩ | refine iteP_true rfl ?_ | refine iteP_false rfl ?_ | refine iteP_true ‹_› ?_ | refine iteP_false ‹_› ?_ | refine andK ?_ | refine andA ?_ | refine andT ?_); conv => whnf))
            (refine ⟨_, l01Bit_ret ms[i] j (hm63 i hi') (by omega), ?_⟩; conv => whnf)
            repeat (first | ((first | refine opt_some (getC_rows rfl rfl (by omega)) ?_ | refine opt_some (by dsimp only; exact getC_lent rfl rfl (by omega)) ?_ | refine opt_some rfl ?_ | refine ⟨_, (by simp only [nf, nl, nm, en, ints, setC_setC, Nat.reduceAdd, Nat.reduceMul, hg2, hg3]; exact rfl), ?_⟩ | refine ⟨_, pickT rfl, ?_⟩ | refine ⟨_, rfl, ?_⟩ | refine iteP_true rfl ?_ | refine iteP_false rfl ?_ | refine iteP_true ‹_› ?_ | refine iteP_false ‹_› ?_ | refine andK ?_ | refine andA ?_ | refine andT ?_); conv => whnf))
            (refine ⟨_, l01Bit_ret ms[j] i (hm63 j hj') (by omega), ?_⟩; conv => whnf)
            repeat (first | ((first | refine opt_some (getC_rows rfl rfl (by omega)) ?_ | refine opt_some (by dsimp only; exact getC_lent rfl rfl (by omega)) ?_ | refine opt_some rfl ?_ | refine ⟨_, (by simp only [nf, nl, nm, en, ints, setC_setC, Nat.reduceAdd, Nat.reduceMul, hg2, hg3]; exact rfl), ?_⟩ | refine ⟨_, pickT rfl, ?_⟩ | refine ⟨_, rfl, ?_⟩ | refine iteP_true rfl ?_ | refine iteP_false rfl ?_ | refine iteP_true ‹_› ?_ | refine iteP_false ‹_› ?_ | refine andK ?_ | refine andA ?_ | refine andT ?_); conv => whnf))
            refine iteP_intro (fun hc => ?_) (fun hc => ?_) <;> (conv => whnf)
            · repeat' (first | ((first | refine opt_some (getC_rows rfl rfl (by omega)) ?_ | refine opt_some (by dsimp only; exact getC_lent rfl rfl (by omega)) ?_ | refine opt_some rfl ?_ | refine ⟨_, (by simp only [nf, nl, nm, en, ints, setC_setC, Nat.reduceAdd, Nat.reduceMul]; exact rfl), ?_⟩ | refine ⟨_, pickT rfl, ?_⟩ | refine ⟨_, rfl, ?_⟩ | refine iteP_true rfl ?_ | refine iteP_false rfl ?_ | refine iteP_true ‹_› ?_ | refine iteP_false ‹_› ?_ | refine andK ?_ | refine andA ?_ | refine andT ?_); conv => whnf) | (refine iteP_intro (fun hb => ?_) (fun hb => ?_) <;> (conv => whnf)))
              refine endB (hfin false ?_).symm
              rw [Bool.eq_false_iff]
              intro h
              have := (symOk_iff.1 h i hi').2 j hj'
              rw [hgd i hi', hgd j hj'] at this
              rw [this] at hc
              simp at hc
            · repeat (first | ((first | refine opt_some (getC_rows rfl rfl (by omega)) ?_ | refine opt_some (by dsimp only; exact getC_lent rfl rfl (by omega)) ?_ | refine opt_some rfl ?_ | refine ⟨_, (by simp only [nf, nl, nm, en, ints, setC_setC, Nat.reduceAdd, Nat.reduceMul]; exact rfl), ?_⟩ | refine ⟨_, pickT rfl, ?_⟩ | refine ⟨_, rfl, ?_⟩ | refine iteP_true rfl ?_ | refine iteP_false rfl ?_ | refine iteP_true ‹_› ?_ | refine iteP_false ‹_› ?_ | refine andK ?_ | refine andA ?_ | refine andT ?_); conv => whnf))
              refine ⟨_, ?_, j + 1, hj', fun b hb => ?_, by rw [wrap_succ (by omega)]; rfl, rfl⟩
              · omega
              · rcases Nat.lt_succ_iff_lt_or_eq.1 hb with h | rfl
                · exact hsj b h
                · rw [hgd i hi', hgd b hj']
                  simpa using hc
          · obtain rfl : j = ms.length := by have := leF hb; omega
            repeat (first | ((first | refine opt_some (getC_rows rfl rfl (by omega)) ?_ | refine opt_some (by dsimp only; exact getC_lent rfl rfl (by omega)) ?_ | refine opt_some rfl ?_ | refine ⟨_, (by simp only [nf, nl, nm, en, ints, setC_setC, Nat.reduceAdd, Nat.reduceMul]; exact rfl), ?_⟩ | refine ⟨_, pickT rfl, ?_⟩ | refine ⟨_, rfl, ?_⟩ | refine iteP_true rfl ?_ | refine iteP_false rfl ?_ | refine iteP_true ‹_› ?_ | refine iteP_false ‹_› ?_ | refine andK ?_ | refine andA ?_ | refine andT ?_); conv => whnf))
            refine ⟨_, ?_, i + 1, hi', fun a ha => ?_, by rw [wrap_succ (by omega)]; rfl, rfl⟩
            · omega
            · rcases Nat.lt_succ_iff_lt_or_eq.1 ha with h | rfl
              · exact hs a h
              · exact ⟨by rw [hgd a hi']; simpa using hh, hsj⟩
      · obtain rfl : i = ms.length := by have := leF hb; omega
        repeat' (first | ((first | refine opt_some (getC_rows rfl rfl (by omega)) ?_ | refine opt_some (by dsimp only; exact getC_lent rfl rfl (by omega)) ?_ | refine opt_some rfl ?_ | refine ⟨_, (by simp only [nf, nl, nm, en, ints, setC_setC, Nat.reduceAdd, Nat.reduceMul]; exact rfl), ?_⟩ | refine ⟨_, pickT rfl, ?_⟩ | refine ⟨_, rfl, ?_⟩ | refine iteP_true rfl ?_ | refine iteP_false rfl ?_ | refine iteP_true ‹_› ?_ | refine iteP_false ‹_› ?_ | refine andK ?_ | refine andA ?_ | refine andT ?_); conv => whnf) | (refine iteP_intro (fun hb => ?_) (fun hb => ?_) <;> (conv => whnf)))
        exact endB (hfin true (symOk_iff.2 hs)).symm
end Go.Proofs.YtihdeagknggeiaaDoor
