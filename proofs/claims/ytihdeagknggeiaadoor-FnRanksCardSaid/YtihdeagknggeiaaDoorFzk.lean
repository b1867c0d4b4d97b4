import Derived.Test.YtihdeagknggeiaaDoorFzj
set_option autoImplicit false
set_option linter.unusedSimpArgs false
set_option linter.unusedVariables false
namespace Go.Proofs.YtihdeagknggeiaaDoor
open Go.Den
theorem ctz_range {x L : Nat} {p : Nat → Bool} (hL : L ≤ 62) (hx : ∀ b, x.testBit b = (decide (b < L) && p b)) : ((List.range L).find? p = none → x = 0) ∧ ∀ c, (List.range L).find? p = some c → x ≠ 0 ∧ Lib.ctz 64 x = c := by
  have hm : x = maskN p L := Nat.eq_of_testBit_eq fun b => by rw [hx, maskN_bit]
  constructor
  · intro h
    refine Nat.eq_of_testBit_eq fun b => ?_
    rw [hx, Nat.zero_testBit]
    by_cases hb : b < L
    · have := List.find?_eq_none.1 h b (List.mem_range.2 hb)
      simp at this
      rw [this, Bool.and_false]
    · rw [decide_eq_false hb]
      rfl
  · intro c h
    have h1 := List.find?_some h
    have h2 := List.mem_range.1 (List.mem_of_find?_eq_some h)
    have hb : x.testBit c = true := by rw [hx, decide_eq_true h2, h1]; rfl
    have h0 : x ≠ 0 := fun e => by rw [e, Nat.zero_testBit] at hb; cases hb
    refine ⟨h0, ?_⟩
    have h63 := maskN_lt63 p hL
    rw [← hm] at h63
    have h4 := mems_step h0 (Nat.lt_trans (show x < 2 ^ 63 from h63) (by decide))
    rw [show mems x = (List.range L).filter p by rw [hm]; exact mems_mask p (by omega)] at h4
    have h3 : ((List.range L).filter p).head? = some c := by rw [List.head?_filter]; exact h
    rw [h4] at h3
    exact Option.some.inj h3
theorem full_lt {L : Nat} (hL : L ≤ 62) : 2 ^ L - 1 < 2 ^ 63 := by
  have := Nat.pow_lt_pow_right (show 1 < 2 by decide) (show L < 63 by omega)
  omega
def opM (L mask a : Nat) : Nat := andn (andn (2 ^ L - 1) mask) (2 ^ (a + 1) - 1)
theorem opM_ok {ms : List Nat} (hl : ms.length ≤ 8) (mask a : Nat) : (opN ms mask a = none → opM ms.length mask a = 0) ∧ ∀ c, opN ms mask a = some c → opM ms.length mask a ≠ 0 ∧ Lib.ctz 64 (opM ms.length mask a) = c :=
  ctz_range (by omega) fun b => by
    unfold opM
    rw [andn_bit _ _ (andn_lt _ _), andn_bit _ _ (full_lt (by omega)), Nat.testBit_two_pow_sub_one, Nat.testBit_two_pow_sub_one]
    have : (!decide (b < a + 1)) = decide (a < b) := by
      by_cases h : a < b
      · rw [decide_eq_true h, decide_eq_false (by omega)]
        rfl
      · rw [decide_eq_false h, decide_eq_true (by omega)]
        rfl
    rw [this, Bool.and_assoc, Bool.and_comm (!mask.testBit b)]
theorem lsM_ok {ms : List Nat} (hl : ms.length ≤ 8) {mask e : Nat} (he : e < ms.length) (h : mask.testBit e = false) : Lib.ctz 64 (andn (2 ^ ms.length - 1) mask) = lsN ms mask := by
  have h1 := ctz_range (x := andn (2 ^ ms.length - 1) mask) (L := ms.length) (p := fun c => !mask.testBit c) (by omega) fun b => by
    rw [andn_bit _ _ (full_lt (by omega)), Nat.testBit_two_pow_sub_one]
  unfold lsN
  cases h2 : (List.range ms.length).find? fun c => !mask.testBit c with
  | none =>
    have := List.find?_eq_none.1 h2 e (List.mem_range.2 he)
    rw [h] at this
    simp at this
  | some c => exact (h1.2 c h2).2
def mskN (ms F : List Nat) (i : Nat) : Nat := (F.take i).foldl (aftN ms) 0
theorem mskN_succ (ms : List Nat) {F : List Nat} {i : Nat} (h : i < F.length) : mskN ms F (i + 1) = aftN ms (mskN ms F i) F[i] := by
  unfold mskN
  rw [List.take_add_one, List.getElem?_eq_getElem h, List.foldl_append]
  rfl
theorem mskN_lt {ms : List Nat} (hl : ms.length ≤ 8) {F : List Nat} (hF : Wd ms F) : ∀ i, i ≤ F.length → mskN ms F i < 2 ^ ms.length
  | 0, _ => Nat.two_pow_pos _
  | i + 1, h => by
    rw [mskN_succ ms (by omega)]
    exact aftN_lt hl (mskN_lt hl hF i (by omega)) (hF _ (List.getElem_mem _))
theorem nx_some {ms F : List Nat} : ∀ (i : Nat) {v : List Nat}, i ≤ F.length → nxN ms (mskN ms F i) (F.drop i) = some v → nxN ms 0 F = some (F.take i ++ v)
  | 0, v, _, h => h
  | i + 1, v, hi, h => by
    have h1 : nxN ms (mskN ms F i) (F.drop i) = some (F[i] :: v) := by
      rw [drop_cons (show i < F.length by omega), nxN, ← mskN_succ ms (show i < F.length by omega), h]
    have h2 : F.take (i + 1) = F.take i ++ [F[i]] := by
      rw [List.take_add_one, List.getElem?_eq_getElem (show i < F.length by omega)]
      rfl
    rw [nx_some i (by omega) h1, h2, List.append_assoc]
    rfl
theorem nx_step {ms F : List Nat} {i : Nat} (hi : i < F.length) (h : nxN ms (mskN ms F (i + 1)) (F.drop (i + 1)) = none) : (opN ms (mskN ms F i) F[i] = none → nxN ms (mskN ms F i) (F.drop i) = none) ∧ ∀ c, opN ms (mskN ms F i) F[i] = some c → nxN ms 0 F = some (F.take i ++ c :: flN ms (F.length - (i + 1)) (aftN ms (mskN ms F i) c)) := by
  have h1 := drop_cons hi
  constructor
  · intro ho
    rw [h1, nxN, ← mskN_succ ms hi, h, ho]
  · intro c ho
    refine nx_some i (by omega) ?_
    rw [h1, nxN, ← mskN_succ ms hi, h, ho, List.length_drop]
set_option maxHeartbeats 16000000 in
set_option maxRecDepth 100000 in
theorem nextI_ret (ms w F : List Nat) (hA : Alpha ms) (hl : ms.length ≤ 8) (h1 : alphaOk ms.length (natI ms) = true) (h2 : wordN ms.length (natI w) = true) (hwd : Wd ms w) (hwl : w.length ≤ 24) (hF : nform ms w = F) : Ret Tryd.prog G0 46 [⟨.ro, .agg [i64 ms.length, ints (natI ms)]⟩, ⟨.ro, .one (ints (natI w))⟩] ⟨.tup [(false, [oints ((nxN ms 0 F).map natI)]), (false, [i64 (if (nxN ms 0 F).isSome then 0 else 4)])], []⟩ := by
  have hwn := natI_length w
  have hmn := natI_length ms
  have hC := checkWords_ret ms.length (natI ms) [natI w] (by omega) (by simp) (by simp; omega)
  simp only [List.all_cons, List.all_nil, Bool.and_true] at hC
  unfold rowsI at hC
  rw [h1, h2, show wcode true true = 0 from rfl] at hC
  have hti := ties_ret ms.length (natI ms)
  have hN := normal_ret ms w hA (by omega) hwd (by omega)
  have hp8 : 2 ^ ms.length ≤ 2 ^ 8 := Nat.pow_le_pow_right (by decide) hl
  have hfd := nform_wd hA hwd
  have hfl := nform_length hA hwd
  rw [hF] at hN hfd hfl
  have hFn := natI_length F
  have hmlt := mskN_lt hl hfd
  have hX0 : ∃ X, nxN ms 0 F = X := ⟨_, rfl⟩
  obtain ⟨X, hX⟩ := hX0
  rw [hX]
  have hFi : ((F.length : Nat) : Int) = (((natI F).length : Nat) : Int) := by rw [hFn]
  (refine ret_of_den (E := en 104 [] (fun | 7 => [(2, 0), (9, 0), (10, 0), (30, 0), (31, 0), (32, 0), (7, 1), (8, 32)] | 13 => [(2, 0), (9, 0), (13, 0), (30, 0), (7, 1), (8, 32)] | 19 => [(2, 0), (10, 0), (15, 0), (7, 1), (8, 1)] | _ => []) (fun _ => [])) tt_ok mixed Tryd.func46 rfl rfl rfl rfl ?_; refine ⟨by simp, ?_⟩)
  repeat' (first | ((first | refine opt_some (getC_rows rfl rfl (by omega)) ?_ | refine opt_some (by dsimp only; exact getC_lent rfl rfl (by omega)) ?_ | refine opt_some rfl ?_ | refine ⟨_, (by simp only [nf, nl, nm, en, ints, setC_setC, Nat.reduceAdd, Nat.reduceMul]; exact rfl), ?_⟩ | refine ⟨_, pickT rfl, ?_⟩ | refine ⟨_, rfl, ?_⟩ | refine iteP_true rfl ?_ | refine iteP_false rfl ?_ | refine iteP_true ‹_› ?_ | refine iteP_false ‹_› ?_ | refine andK ?_ | refine andA ?_ | refine andT ?_); conv => whnf) | (refine iteP_intro (fun hb => ?_) (fun hb => ?_) <;> (conv => whnf)))
  (refine ⟨_, hC, ?_⟩; conv => whnf)
  repeat' (first | ((first | refine opt_some (getC_rows rfl rfl (by omega)) ?_ | refine opt_some (by dsimp only; exact getC_lent rfl rfl (by omega)) ?_ | refine opt_some rfl ?_ | refine ⟨_, (by simp only [nf, nl, nm, en, ints, setC_setC, Nat.reduceAdd, Nat.reduceMul]; exact rfl), ?_⟩ | refine ⟨_, pickT rfl, ?_⟩ | refine ⟨_, rfl, ?_⟩ | refine iteP_true rfl ?_ | refine iteP_false rfl ?_ | refine iteP_true ‹_› ?_ | refine iteP_false ‹_› ?_ | refine andK ?_ | refine andA ?_ | refine andT ?_); conv => whnf) | (refine iteP_intro (fun hb => ?_) (fun hb => ?_) <;> (conv => whnf)))
  (refine ⟨_, hti, ?_⟩; conv => whnf)
  repeat' (first | ((first | refine opt_some (getC_rows rfl rfl (by omega)) ?_ | refine opt_some (by dsimp only; exact getC_lent rfl rfl (by omega)) ?_ | refine opt_some rfl ?_ | refine ⟨_, (by simp only [nf, nl, nm, en, ints, setC_setC, Nat.reduceAdd, Nat.reduceMul]; exact rfl), ?_⟩ | refine ⟨_, pickT rfl, ?_⟩ | refine ⟨_, rfl, ?_⟩ | refine iteP_true rfl ?_ | refine iteP_false rfl ?_ | refine iteP_true ‹_› ?_ | refine iteP_false ‹_› ?_ | refine andK ?_ | refine andA ?_ | refine andT ?_); conv => whnf) | (refine iteP_intro (fun hb => ?_) (fun hb => ?_) <;> (conv => whnf)))
  (refine ⟨_, hN, ?_⟩; conv => whnf)
  repeat' (first | ((first | refine opt_some (getC_rows rfl rfl (by omega)) ?_ | refine opt_some (by dsimp only; exact getC_lent rfl rfl (by omega)) ?_ | refine opt_some rfl ?_ | refine ⟨_, (by simp only [nf, nl, nm, en, ints, setC_setC, Nat.reduceAdd, Nat.reduceMul]; exact rfl), ?_⟩ | refine ⟨_, pickT rfl, ?_⟩ | refine ⟨_, rfl, ?_⟩ | refine iteP_true rfl ?_ | refine iteP_false rfl ?_ | refine iteP_true ‹_› ?_ | refine iteP_false ‹_› ?_ | refine andK ?_ | refine andA ?_ | refine andT ?_); conv => whnf) | (refine iteP_intro (fun hb => ?_) (fun hb => ?_) <;> (conv => whnf)))
  refine ⟨fun k vs => ∃ i : Nat, i ≤ F.length ∧ vs = [.one (.ptr [i64 ms.length, .shd (ints (natI ms))]), .one (ints (natI ((List.range i).map (mskN ms F)))), .one (i64 ((mskN ms F i : Nat) : Int)), .one (ints (natI F)), .one (i64 F.length), .one (i64 i), .one (.shd (ints (natI ms))), .dead] ∧ k = F.length - i, rfl, ⟨_, 0, by omega, by rw [hFi]; rfl, rfl⟩, ?_⟩
  rintro k vs ⟨i, hi, rfl, rfl⟩
  have hrl : ((List.range i).map (mskN ms F)).length = i := by rw [List.length_map, List.length_range]
  have hrn := natI_length ((List.range i).map (mskN ms F))
  repeat (first | ((first | refine opt_some (getC_rows rfl rfl (by omega)) ?_ | refine opt_some (by dsimp only; exact getC_lent rfl rfl (by omega)) ?_ | refine opt_some rfl ?_ | refine ⟨_, (by simp only [nf, nl, nm, en, ints, setC_setC, Nat.reduceAdd, Nat.reduceMul]; exact rfl), ?_⟩ | refine ⟨_, pickT rfl, ?_⟩ | refine ⟨_, rfl, ?_⟩ | refine iteP_true rfl ?_ | refine iteP_false rfl ?_ | refine iteP_true ‹_› ?_ | refine iteP_false ‹_› ?_ | refine andK ?_ | refine andA ?_ | refine andT ?_); conv => whnf))
  refine iteP_intro (fun hb => ?_) (fun hb => ?_) <;> (conv => whnf)
  · have hi' : i < F.length := by have := leT hb; omega
    have hgi : (natI F)[i]'(by omega) = ((F[i] : Nat) : Int) := natI_get _
    have hms := mskN_succ ms hi'
    have hal : F[i] < ms.length := hfd _ (List.getElem_mem hi')
    have hA1 := forbidden_ret ms (mskN ms F i) F[i] hal (by omega) hA.lt (hmlt i hi)
    rw [show andn (mskN ms F i ||| (2 ^ F[i] - 1)) (ms.getD F[i] 0) = mskN ms F (i + 1) from hms.symm] at hA1
    have hsn : ints (natI ((List.range (i + 1)).map (mskN ms F))) = .sl false 1 (i + 1) ((natI ((List.range i).map (mskN ms F))).map i64 ++ [i64 ((mskN ms F i : Nat) : Int)]) := by
      rw [List.range_succ, List.map_append, List.map_singleton, natI_snoc, ints_snoc, hrn, hrl]
    repeat (first | ((first | refine opt_some (getC_rows rfl rfl (by omega)) ?_ | refine opt_some (by dsimp only; exact getC_lent rfl rfl (by omega)) ?_ | refine opt_some rfl ?_ | refine ⟨_, (by simp only [nf, nl, nm, en, ints, setC_setC, Nat.reduceAdd, Nat.reduceMul, hgi]; exact rfl), ?_⟩ | refine ⟨_, pickT rfl, ?_⟩ | refine ⟨_, rfl, ?_⟩ | refine iteP_true rfl ?_ | refine iteP_false rfl ?_ | refine iteP_true ‹_› ?_ | refine iteP_false ‹_› ?_ | refine andK ?_ | refine andA ?_ | refine andT ?_); conv => whnf))
    (refine ⟨_, hA1, ?_⟩; conv => whnf)
    repeat (first | ((first | refine opt_some (getC_rows rfl rfl (by omega)) ?_ | refine opt_some (by dsimp only; exact getC_lent rfl rfl (by omega)) ?_ | refine opt_some rfl ?_ | refine ⟨_, (by simp only [nf, nl, nm, en, ints, setC_setC, Nat.reduceAdd, Nat.reduceMul]; exact rfl), ?_⟩ | refine ⟨_, pickT rfl, ?_⟩ | refine ⟨_, rfl, ?_⟩ | refine iteP_true rfl ?_ | refine iteP_false rfl ?_ | refine iteP_true ‹_› ?_ | refine iteP_false ‹_› ?_ | refine andK ?_ | refine andA ?_ | refine andT ?_); conv => whnf))
    refine ⟨_, ?_, i + 1, hi', ?_, rfl⟩
    · omega
    · rw [wrap_succ (by omega), hsn, hrn, hrl]
      rfl
  have hie : i = F.length := by have := leF hb; omega
  subst hie
  repeat (first | ((first | refine opt_some (getC_rows rfl rfl (by omega)) ?_ | refine opt_some (by dsimp only; exact getC_lent rfl rfl (by omega)) ?_ | refine opt_some rfl ?_ | refine ⟨_, (by simp only [nf, nl, nm, en, ints, setC_setC, Nat.reduceAdd, Nat.reduceMul]; exact rfl), ?_⟩ | refine ⟨_, pickT rfl, ?_⟩ | refine ⟨_, rfl, ?_⟩ | refine iteP_true rfl ?_ | refine iteP_false rfl ?_ | refine iteP_true ‹_› ?_ | refine iteP_false ‹_› ?_ | refine andK ?_ | refine andA ?_ | refine andT ?_); conv => whnf))
  refine ⟨fun k vs => ∃ i : Nat, i ≤ F.length ∧ nxN ms (mskN ms F i) (F.drop i) = none ∧ vs = [.one (.ptr [i64 ms.length, .shd (ints (natI ms))]), .one (ints (natI ((List.range F.length).map (mskN ms F)))), .one (i64 ((i : Int) - 1)), .one (ints (natI F)), .one (.shd (ints (natI ms))), .dead] ∧ k = i, rfl, ⟨_, F.length, by omega, by rw [List.drop_length]; rfl, by rw [show IntKind.i64.wrap (((natI F).length : Int) - 1) = (F.length : Int) - 1 by rw [hFn]; exact wrap_i64 (by omega) (by omega)]; rfl, rfl⟩, ?_⟩
  rintro k vs ⟨i, hi, hnn, rfl, hk⟩
  repeat (first | ((first | refine opt_some (getC_rows rfl rfl (by omega)) ?_ | refine opt_some (by dsimp only; exact getC_lent rfl rfl (by omega)) ?_ | refine opt_some rfl ?_ | refine ⟨_, (by simp only [nf, nl, nm, en, ints, setC_setC, Nat.reduceAdd, Nat.reduceMul]; exact rfl), ?_⟩ | refine ⟨_, pickT rfl, ?_⟩ | refine ⟨_, rfl, ?_⟩ | refine iteP_true rfl ?_ | refine iteP_false rfl ?_ | refine iteP_true ‹_› ?_ | refine iteP_false ‹_› ?_ | refine andK ?_ | refine andA ?_ | refine andT ?_); conv => whnf))
  refine iteP_intro (fun hb => ?_) (fun hb => ?_) <;> (conv => whnf)
  rotate_left
  · have hie : i = 0 := by have := leF hb; omega
    subst hie
    have hXn : X = none := hX.symm.trans hnn
    rw [hXn]
    repeat' (first | ((first | refine opt_some (getC_rows rfl rfl (by omega)) ?_ | refine opt_some (by dsimp only; exact getC_lent rfl rfl (by omega)) ?_ | refine opt_some rfl ?_ | refine ⟨_, (by simp only [nf, nl, nm, en, ints, setC_setC, Nat.reduceAdd, Nat.reduceMul]; exact rfl), ?_⟩ | refine ⟨_, pickT rfl, ?_⟩ | refine ⟨_, rfl, ?_⟩ | refine iteP_true rfl ?_ | refine iteP_false rfl ?_ | refine iteP_true ‹_› ?_ | refine iteP_false ‹_› ?_ | refine andK ?_ | refine andA ?_ | refine andT ?_); conv => whnf) | (refine iteP_intro (fun hb => ?_) (fun hb => ?_) <;> (conv => whnf)))
    rfl
  have hj0 : ∃ j, i = j + 1 := ⟨i - 1, by have := leT hb; omega⟩
  obtain ⟨j, hj⟩ := hj0
  subst hj
  have hj' : j < F.length := by omega
  rw [show ((j + 1 : Nat) : Int) - 1 = (j : Int) by omega]
  have hgi : (natI F)[j]'(by omega) = ((F[j] : Nat) : Int) := natI_get _
  have hal : F[j] < ms.length := hfd _ (List.getElem_mem hj')
  have hrl : ((List.range F.length).map (mskN ms F)).length = F.length := by rw [List.length_map, List.length_range]
  have hrn := natI_length ((List.range F.length).map (mskN ms F))
  have hgs : (natI ((List.range F.length).map (mskN ms F)))[j]'(by omega) = ((mskN ms F j : Nat) : Int) := by
    rw [natI_get]
    simp
  have hst := nx_step hj' hnn
  have hom := opM_ok hl (mskN ms F j) F[j]
  have hmj := hmlt j (by omega)
  have hM0 : ∃ M, mskN ms F j = M := ⟨_, rfl⟩
  obtain ⟨M, hM⟩ := hM0
  have ha0 : ∃ a, F[j] = a := ⟨_, rfl⟩
  obtain ⟨a, ha⟩ := ha0
  rw [hM] at hgs hst hom hmj
  rw [ha] at hgi hal hst hom
  have hO0 : ∃ O, opM ms.length M a = O := ⟨_, rfl⟩
  obtain ⟨O, hO⟩ := hO0
  have hO63 : O < 2 ^ 63 := by rw [← hO]; exact andn_lt _ _
  rw [hO] at hom
  have hAll := allLetters_ret ms.length (natI ms) (by omega)
  have hOne := one_retN (a + 1) (by omega)
  have hpa : 2 ^ (a + 1) ≤ 2 ^ 8 := Nat.pow_le_pow_right (by decide) (by omega)
  have hpa0 := Nat.two_pow_pos (a + 1)
  have e0 : IntKind.i64.wrap ((a : Int) + 1) = ((a + 1 : Nat) : Int) := wrap_succ (by omega)
  have e1 := andn_i64 (a := 2 ^ ms.length - 1) (b := M) (full_lt (by omega)) (by omega)
  have e2 : IntKind.i64.wrap (((2 ^ (a + 1) : Nat) : Int) - 1) = ((2 ^ (a + 1) - 1 : Nat) : Int) := by rw [wrap_i64 (by omega) (by omega)]; omega
  have e3 := andn_i64 (a := andn (2 ^ ms.length - 1) M) (b := 2 ^ (a + 1) - 1) (andn_lt _ _) (by omega)
  rw [show andn (andn (2 ^ ms.length - 1) M) (2 ^ (a + 1) - 1) = O from hO] at e3
  have hop : opN ms M a = none ∨ ∃ c, opN ms M a = some c := by
    cases opN ms M a with
    | none => exact .inl rfl
    | some c => exact .inr ⟨c, rfl⟩
  rcases hop with hop | hop
  · have hq : (((O : Nat) : Int) == 0) = true := by rw [hom.1 hop]; rfl
    have hnn2 := hst.1 hop
    repeat (first | ((first | refine opt_some (getC_rows rfl rfl (by omega)) ?_ | refine opt_some (by dsimp only; exact getC_lent rfl rfl (by omega)) ?_ | refine opt_some rfl ?_ | refine ⟨_, (by simp only [nf, nl, nm, en, ints, setC_setC, Nat.reduceAdd, Nat.reduceMul]; exact rfl), ?_⟩ | refine ⟨_, pickT rfl, ?_⟩ | refine ⟨_, rfl, ?_⟩ | refine iteP_true rfl ?_ | refine iteP_false rfl ?_ | refine iteP_true ‹_› ?_ | refine iteP_false ‹_› ?_ | refine andK ?_ | refine andA ?_ | refine andT ?_); conv => whnf))
    (refine ⟨_, hAll, ?_⟩; conv => whnf)
    repeat (first | ((first | refine opt_some (getC_rows rfl rfl (by omega)) ?_ | refine opt_some (by dsimp only; exact getC_lent rfl rfl (by omega)) ?_ | refine opt_some rfl ?_ | refine ⟨_, (by simp only [nf, nl, nm, en, ints, setC_setC, Nat.reduceAdd, Nat.reduceMul, hgs, e1, hgi, e0]; exact rfl), ?_⟩ | refine ⟨_, pickT rfl, ?_⟩ | refine ⟨_, rfl, ?_⟩ | refine iteP_true rfl ?_ | refine iteP_false rfl ?_ | refine iteP_true ‹_› ?_ | refine iteP_false ‹_› ?_ | refine andK ?_ | refine andA ?_ | refine andT ?_); conv => whnf))
    (refine ⟨_, hOne, ?_⟩; conv => whnf)
    repeat (first | ((first | refine opt_some (getC_rows rfl rfl (by omega)) ?_ | refine opt_some (by dsimp only; exact getC_lent rfl rfl (by omega)) ?_ | refine opt_some rfl ?_ | refine ⟨_, (by simp only [nf, nl, nm, en, ints, setC_setC, Nat.reduceAdd, Nat.reduceMul, e2, e3, hq]; exact rfl), ?_⟩ | refine ⟨_, pickT rfl, ?_⟩ | refine ⟨_, rfl, ?_⟩ | refine iteP_true rfl ?_ | refine iteP_false rfl ?_ | refine iteP_true ‹_› ?_ | refine iteP_false ‹_› ?_ | refine andK ?_ | refine andA ?_ | refine andT ?_); conv => whnf))
    refine ⟨_, ?_, j, by omega, by rw [hM]; exact hnn2, ?_, rfl⟩
    · omega
    · rw [wrap_i64 (by omega) (by omega)]
      rfl
  obtain ⟨c, hc⟩ := hop
  have hoc := hom.2 c hc
  have hoc1 := hoc.1
  have hq : (((O : Nat) : Int) == 0) = false := by rw [beq_eq_false_iff_ne]; omega
  have hxs := hX.symm.trans (hst.2 c hc)
  have hcc := opN_some hc
  have hcl : c < ms.length := hcc.2.1
  have hLs := least_ret O hO63
  rw [hoc.2] at hLs
  have htn : natI (F.take j) = (natI F).take j := by unfold natI; rw [List.map_take]
  have htl : (F.take j).length = j := by rw [List.length_take]; omega
  have htln := natI_length (F.take j)
  have hCl := clone_ret (natI (F.take j)) (by omega)
  have hA1 := forbidden_ret ms M c hcl (by omega) hA.lt hmj
  rw [show andn (M ||| (2 ^ c - 1)) (ms.getD c 0) = aftN ms M c from rfl] at hA1
  have e9 : Cell.sl false 1 (j : Int).toNat (((natI F).map i64).take ((j : Int).toNat * 1)) = ints (natI (F.take j)) := by rw [cut_hi (by omega), natI_take]
  have hsn : ints (natI (F.take j ++ [c])) = .sl false 1 ((natI (F.take j)).length + 1) ((natI (F.take j)).map i64 ++ [i64 (c : Int)]) := by rw [natI_snoc, ints_snoc]
  have haf := aftN_lt hl hmj hcl
  have hself : (aftN ms M c).testBit c = false := by rw [aftN_testBit hl hmj hcl, hA.self _ hcl]; simp
  repeat (first | ((first | refine opt_some (getC_rows rfl rfl (by omega)) ?_ | refine opt_some (by dsimp only; exact getC_lent rfl rfl (by omega)) ?_ | refine opt_some rfl ?_ | refine ⟨_, (by simp only [nf, nl, nm, en, ints, setC_setC, Nat.reduceAdd, Nat.reduceMul]; exact rfl), ?_⟩ | refine ⟨_, pickT rfl, ?_⟩ | refine ⟨_, rfl, ?_⟩ | refine iteP_true rfl ?_ | refine iteP_false rfl ?_ | refine iteP_true ‹_› ?_ | refine iteP_false ‹_› ?_ | refine andK ?_ | refine andA ?_ | refine andT ?_); conv => whnf))
  (refine ⟨_, hAll, ?_⟩; conv => whnf)
  repeat (first | ((first | refine opt_some (getC_rows rfl rfl (by omega)) ?_ | refine opt_some (by dsimp only; exact getC_lent rfl rfl (by omega)) ?_ | refine opt_some rfl ?_ | refine ⟨_, (by simp only [nf, nl, nm, en, ints, setC_setC, Nat.reduceAdd, Nat.reduceMul, hgs, e1, hgi, e0]; exact rfl), ?_⟩ | refine ⟨_, pickT rfl, ?_⟩ | refine ⟨_, rfl, ?_⟩ | refine iteP_true rfl ?_ | refine iteP_false rfl ?_ | refine iteP_true ‹_› ?_ | refine iteP_false ‹_› ?_ | refine andK ?_ | refine andA ?_ | refine andT ?_); conv => whnf))
  (refine ⟨_, hOne, ?_⟩; conv => whnf)
  repeat (first | ((first | refine opt_some (getC_rows rfl rfl (by omega)) ?_ | refine opt_some (by dsimp only; exact getC_lent rfl rfl (by omega)) ?_ | refine opt_some rfl ?_ | refine ⟨_, (by simp only [nf, nl, nm, en, ints, setC_setC, Nat.reduceAdd, Nat.reduceMul, e2, e3, hq, e9]; exact rfl), ?_⟩ | refine ⟨_, pickT rfl, ?_⟩ | refine ⟨_, rfl, ?_⟩ | refine iteP_true rfl ?_ | refine iteP_false rfl ?_ | refine iteP_true ‹_› ?_ | refine iteP_false ‹_› ?_ | refine andK ?_ | refine andA ?_ | refine andT ?_); conv => whnf))
  (refine ⟨_, hCl, ?_⟩; conv => whnf)
  repeat (first | ((first | refine opt_some (getC_rows rfl rfl (by omega)) ?_ | refine opt_some (by dsimp only; exact getC_lent rfl rfl (by omega)) ?_ | refine opt_some rfl ?_ | refine ⟨_, (by simp only [nf, nl, nm, en, ints, setC_setC, Nat.reduceAdd, Nat.reduceMul]; exact rfl), ?_⟩ | refine ⟨_, pickT rfl, ?_⟩ | refine ⟨_, rfl, ?_⟩ | refine iteP_true rfl ?_ | refine iteP_false rfl ?_ | refine iteP_true ‹_› ?_ | refine iteP_false ‹_› ?_ | refine andK ?_ | refine andA ?_ | refine andT ?_); conv => whnf))
  (refine ⟨_, hLs, ?_⟩; conv => whnf)
  repeat (first | ((first | refine opt_some (getC_rows rfl rfl (by omega)) ?_ | refine opt_some (by dsimp only; exact getC_lent rfl rfl (by omega)) ?_ | refine opt_some rfl ?_ | refine ⟨_, (by simp only [nf, nl, nm, en, ints, setC_setC, Nat.reduceAdd, Nat.reduceMul, hgs]; exact rfl), ?_⟩ | refine ⟨_, pickT rfl, ?_⟩ | refine ⟨_, rfl, ?_⟩ | refine iteP_true rfl ?_ | refine iteP_false rfl ?_ | refine iteP_true ‹_› ?_ | refine iteP_false ‹_› ?_ | refine andK ?_ | refine andA ?_ | refine andT ?_); conv => whnf))
  (refine ⟨_, hLs, ?_⟩; conv => whnf)
  repeat (first | ((first | refine opt_some (getC_rows rfl rfl (by omega)) ?_ | refine opt_some (by dsimp only; exact getC_lent rfl rfl (by omega)) ?_ | refine opt_some rfl ?_ | refine ⟨_, (by simp only [nf, nl, nm, en, ints, setC_setC, Nat.reduceAdd, Nat.reduceMul]; exact rfl), ?_⟩ | refine ⟨_, pickT rfl, ?_⟩ | refine ⟨_, rfl, ?_⟩ | refine iteP_true rfl ?_ | refine iteP_false rfl ?_ | refine iteP_true ‹_› ?_ | refine iteP_false ‹_› ?_ | refine andK ?_ | refine andA ?_ | refine andT ?_); conv => whnf))
  (refine ⟨_, hA1, ?_⟩; conv => whnf)
  repeat (first | ((first | refine opt_some (getC_rows rfl rfl (by omega)) ?_ | refine opt_some (by dsimp only; exact getC_lent rfl rfl (by omega)) ?_ | refine opt_some rfl ?_ | refine ⟨_, (by simp only [nf, nl, nm, en, ints, setC_setC, Nat.reduceAdd, Nat.reduceMul]; exact rfl), ?_⟩ | refine ⟨_, pickT rfl, ?_⟩ | refine ⟨_, rfl, ?_⟩ | refine iteP_true rfl ?_ | refine iteP_false rfl ?_ | refine iteP_true ‹_› ?_ | refine iteP_false ‹_› ?_ | refine andK ?_ | refine andA ?_ | refine andT ?_); conv => whnf))
  refine ⟨fun k vs => ∃ (m mask e : Nat) (out : List Nat), out.length + m = F.length ∧ X = some (out ++ flN ms m mask) ∧ mask < 2 ^ ms.length ∧ e < ms.length ∧ mask.testBit e = false ∧ vs = [.one (.ptr [i64 ms.length, .shd (ints (natI ms))]), .one (i64 mask), .one (ints (natI out)), .one (.shd (ints (natI ms))), .one (.shd (ints (natI F)))] ∧ k = m, rfl, ⟨_, F.length - (j + 1), aftN ms M c, c, F.take j ++ [c], by rw [List.length_append, htl]; show j + 1 + _ = _; omega, by rw [hxs, List.append_assoc]; rfl, haf, hcl, hself, by rw [hsn]; rfl, rfl⟩, ?_⟩
  rintro k vs ⟨m, mask, e, out, hol, hXo, hmk, hel, hme, rfl, hkm⟩
  have hon := natI_length out
  repeat (first | ((first | refine opt_some (getC_rows rfl rfl (by omega)) ?_ | refine opt_some (by dsimp only; exact getC_lent rfl rfl (by omega)) ?_ | refine opt_some rfl ?_ | refine ⟨_, (by simp only [nf, nl, nm, en, ints, setC_setC, Nat.reduceAdd, Nat.reduceMul]; exact rfl), ?_⟩ | refine ⟨_, pickT rfl, ?_⟩ | refine ⟨_, rfl, ?_⟩ | refine iteP_true rfl ?_ | refine iteP_false rfl ?_ | refine iteP_true ‹_› ?_ | refine iteP_false ‹_› ?_ | refine andK ?_ | refine andA ?_ | refine andT ?_); conv => whnf))
  refine iteP_intro (fun hb => ?_) (fun hb => ?_) <;> (conv => whnf)
  rotate_left
  · have hm0 : m = 0 := by have := leF hb; omega
    rw [hm0, flN, List.append_nil] at hXo
    rw [hXo]
    repeat' (first | ((first | refine opt_some (getC_rows rfl rfl (by omega)) ?_ | refine opt_some (by dsimp only; exact getC_lent rfl rfl (by omega)) ?_ | refine opt_some rfl ?_ | refine ⟨_, (by simp only [nf, nl, nm, en, ints, setC_setC, Nat.reduceAdd, Nat.reduceMul]; exact rfl), ?_⟩ | refine ⟨_, pickT rfl, ?_⟩ | refine ⟨_, rfl, ?_⟩ | refine iteP_true rfl ?_ | refine iteP_false rfl ?_ | refine iteP_true ‹_› ?_ | refine iteP_false ‹_› ?_ | refine andK ?_ | refine andA ?_ | refine andT ?_); conv => whnf) | (refine iteP_intro (fun hb => ?_) (fun hb => ?_) <;> (conv => whnf)))
    rfl
  have hm0 : ∃ m', m = m' + 1 := ⟨m - 1, by have := leT hb; omega⟩
  obtain ⟨m', hm'⟩ := hm0
  rw [hm', flN] at hXo
  have hls := lsN_ok hel hme
  have hlm := lsM_ok hl hel hme
  have hL0 : ∃ l, lsN ms mask = l := ⟨_, rfl⟩
  obtain ⟨l, hL⟩ := hL0
  rw [hL] at hXo hls hlm
  have hll := hls.1
  have e5 := andn_i64 (a := 2 ^ ms.length - 1) (b := mask) (full_lt (by omega)) (by omega)
  have hL2 := least_ret (andn (2 ^ ms.length - 1) mask) (andn_lt _ _)
  rw [hlm] at hL2
  have hA2 := forbidden_ret ms mask l hll (by omega) hA.lt hmk
  rw [show andn (mask ||| (2 ^ l - 1)) (ms.getD l 0) = aftN ms mask l from rfl] at hA2
  have haf2 := aftN_lt hl hmk hll
  have hself2 : (aftN ms mask l).testBit l = false := by rw [aftN_testBit hl hmk hll, hA.self _ hll]; simp
  have hsn2 : ints (natI (out ++ [l])) = .sl false 1 ((natI out).length + 1) ((natI out).map i64 ++ [i64 (l : Int)]) := by rw [natI_snoc, ints_snoc]
  repeat (first | ((first | refine opt_some (getC_rows rfl rfl (by omega)) ?_ | refine opt_some (by dsimp only; exact getC_lent rfl rfl (by omega)) ?_ | refine opt_some rfl ?_ | refine ⟨_, (by simp only [nf, nl, nm, en, ints, setC_setC, Nat.reduceAdd, Nat.reduceMul]; exact rfl), ?_⟩ | refine ⟨_, pickT rfl, ?_⟩ | refine ⟨_, rfl, ?_⟩ | refine iteP_true rfl ?_ | refine iteP_false rfl ?_ | refine iteP_true ‹_› ?_ | refine iteP_false ‹_› ?_ | refine andK ?_ | refine andA ?_ | refine andT ?_); conv => whnf))
  (refine ⟨_, hAll, ?_⟩; conv => whnf)
  repeat (first | ((first | refine opt_some (getC_rows rfl rfl (by omega)) ?_ | refine opt_some (by dsimp only; exact getC_lent rfl rfl (by omega)) ?_ | refine opt_some rfl ?_ | refine ⟨_, (by simp only [nf, nl, nm, en, ints, setC_setC, Nat.reduceAdd, Nat.reduceMul, e5]; exact rfl), ?_⟩ | refine ⟨_, pickT rfl, ?_⟩ | refine ⟨_, rfl, ?_⟩ | refine iteP_true rfl ?_ | refine iteP_false rfl ?_ | refine iteP_true ‹_› ?_ | refine iteP_false ‹_› ?_ | refine andK ?_ | refine andA ?_ | refine andT ?_); conv => whnf))
  (refine ⟨_, hL2, ?_⟩; conv => whnf)
  repeat (first | ((first | refine opt_some (getC_rows rfl rfl (by omega)) ?_ | refine opt_some (by dsimp only; exact getC_lent rfl rfl (by omega)) ?_ | refine opt_some rfl ?_ | refine ⟨_, (by simp only [nf, nl, nm, en, ints, setC_setC, Nat.reduceAdd, Nat.reduceMul]; exact rfl), ?_⟩ | refine ⟨_, pickT rfl, ?_⟩ | refine ⟨_, rfl, ?_⟩ | refine iteP_true rfl ?_ | refine iteP_false rfl ?_ | refine iteP_true ‹_› ?_ | refine iteP_false ‹_› ?_ | refine andK ?_ | refine andA ?_ | refine andT ?_); conv => whnf))
  (refine ⟨_, hA2, ?_⟩; conv => whnf)
  repeat (first | ((first | refine opt_some (getC_rows rfl rfl (by omega)) ?_ | refine opt_some (by dsimp only; exact getC_lent rfl rfl (by omega)) ?_ | refine opt_some rfl ?_ | refine ⟨_, (by simp only [nf, nl, nm, en, ints, setC_setC, Nat.reduceAdd, Nat.reduceMul]; exact rfl), ?_⟩ | refine ⟨_, pickT rfl, ?_⟩ | refine ⟨_, rfl, ?_⟩ | refine iteP_true rfl ?_ | refine iteP_false rfl ?_ | refine iteP_true ‹_› ?_ | refine iteP_false ‹_› ?_ | refine andK ?_ | refine andA ?_ | refine andT ?_); conv => whnf))
  refine ⟨_, ?_, m', aftN ms mask l, l, out ++ [l], by rw [List.length_append]; show out.length + 1 + m' = _; omega, by rw [hXo, List.append_assoc]; rfl, haf2, hll, hself2, ?_, rfl⟩
  · omega
  · rw [hsn2]
    rfl
end Go.Proofs.YtihdeagknggeiaaDoor
