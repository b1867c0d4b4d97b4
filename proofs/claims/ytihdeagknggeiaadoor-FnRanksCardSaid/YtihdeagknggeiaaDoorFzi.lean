import Derived.Test.YtihdeagknggeiaaDoorFzh
set_option autoImplicit false
set_option linter.unusedSimpArgs false
set_option linter.unusedVariables false
namespace Go.Proofs.YtihdeagknggeiaaDoor
open Go.Den
/-! The rank of a trace. -/
def rtN (ms : List Nat) : Nat → List Nat → Nat
  | _, [] => 0
  | mask, a :: w => smN (trmN ms w.length mask) a + rtN ms (aftN ms mask a) w
def rtR (n : Int) (ds xs : List Int) : Int × Int :=
  if alphaOk n ds then (if wordN n xs then (if 1000000000000000 < trc (ds.map Int.toNat).length (dep (ds.map Int.toNat)) xs.length then (0, 3) else (((rtN (ds.map Int.toNat) 0 (nform (ds.map Int.toNat) (xs.map Int.toNat)) : Nat) : Int), 0)) else (0, 2)) else (0, 1)
theorem rtR_bad {n : Int} {ds xs : List Int} (h : alphaOk n ds = false) : rtR n ds xs = (0, 1) := by
  unfold rtR
  rw [if_neg (by rw [h]; simp)]
theorem rtR_out {n : Int} {ds xs : List Int} (h : alphaOk n ds = true) (hw : wordN n xs = false) : rtR n ds xs = (0, 2) := by
  unfold rtR
  rw [if_pos h, if_neg (by rw [hw]; simp)]
theorem rtR_in {n : Int} {ds xs : List Int} {ms w : List Nat} (h : alphaOk n ds = true) (hw : wordN n xs = true) (e1 : ds.map Int.toNat = ms) (e2 : xs.map Int.toNat = w) : rtR n ds xs = if 1000000000000000 < trc ms.length (dep ms) w.length then (0, 3) else (((rtN ms 0 (nform ms w) : Nat) : Int), 0) := by
  have hl : w.length = xs.length := by rw [← e2, List.length_map]
  unfold rtR
  rw [if_pos h, if_pos hw, e1, e2, hl]
theorem drop_cons {w : List Nat} {i : Nat} (h : i < w.length) : w.drop i = w[i] :: w.drop (i + 1) := List.drop_eq_getElem_cons h
set_option maxHeartbeats 16000000 in
set_option maxRecDepth 100000 in
theorem rtI_ret (n : Int) (ds xs : List Int) (hd : ds.length < 2 ^ 62) (hx : xs.length < 2 ^ 62) : Ret Tryd.prog G0 27 [⟨.ro, .agg [i64 n, ints ds]⟩, ⟨.ro, .one (ints xs)⟩] ⟨.tup [(false, [i64 (rtR n ds xs).1]), (false, [i64 (rtR n ds xs).2])], []⟩ := by
  have hC := checkWords_ret n ds [xs] hd (by simp) (by simp; omega)
  simp only [List.all_cons, List.all_nil, Bool.and_true] at hC
  unfold rowsI at hC
  cases h1 : alphaOk n ds with
  | false =>
    rw [rtR_bad h1]
    rw [h1, wcode_f] at hC
    (refine ret_of_den (E := en 76 [] (fun | 11 => [(10, 0), (11, 0), (12, 0), (41, 0), (42, 0), (43, 0), (9, 1), (13, 43)] | 14 => [(10, 0), (11, 0), (12, 0), (14, 0), (15, 0), (41, 0), (42, 0), (43, 0), (48, 0), (49, 0), (9, 1), (13, 43)] | _ => []) (fun _ => [])) tt_ok mixed Tryd.func27 rfl rfl rfl rfl ?_; refine ⟨by simp, ?_⟩)
    repeat' (first | ((first | refine opt_some (getC_rows rfl rfl (by omega)) ?_ | refine opt_some (by dsimp only; exact getC_lent rfl rfl (by omega)) ?_ | refine opt_some rfl ?_ | refine ⟨_, (by simp only [nf, nl, nm, en, ints, setC_setC, Nat.reduceAdd, Nat.reduceMul]; exact rfl), ?_⟩ | refine ⟨_, pickT rfl, ?_⟩ | refine ⟨_, rfl, ?_⟩ | refine iteP_true rfl ?_ | refine iteP_false rfl ?_ | refine iteP_true ‹_› ?_ | refine iteP_false ‹_› ?_ | refine andK ?_ | refine andA ?_ | refine andT ?_); conv => whnf) | (refine iteP_intro (fun hb => ?_) (fun hb => ?_) <;> (conv => whnf)))
    (refine ⟨_, hC, ?_⟩; conv => whnf)
    repeat' (first | ((first | refine opt_some (getC_rows rfl rfl (by omega)) ?_ | refine opt_some (by dsimp only; exact getC_lent rfl rfl (by omega)) ?_ | refine opt_some rfl ?_ | refine ⟨_, (by simp only [nf, nl, nm, en, ints, setC_setC, Nat.reduceAdd, Nat.reduceMul]; exact rfl), ?_⟩ | refine ⟨_, pickT rfl, ?_⟩ | refine ⟨_, rfl, ?_⟩ | refine iteP_true rfl ?_ | refine iteP_false rfl ?_ | refine iteP_true ‹_› ?_ | refine iteP_false ‹_› ?_ | refine andK ?_ | refine andA ?_ | refine andT ?_); conv => whnf) | (refine iteP_intro (fun hb => ?_) (fun hb => ?_) <;> (conv => whnf)))
    rfl
  | true =>
  cases h2 : wordN n xs with
  | false =>
    rw [rtR_out h1 h2]
    rw [h1, h2, show wcode true false = 2 from rfl] at hC
    (refine ret_of_den (E := en 76 [] (fun | 11 => [(10, 0), (11, 0), (12, 0), (41, 0), (42, 0), (43, 0), (9, 1), (13, 43)] | 14 => [(10, 0), (11, 0), (12, 0), (14, 0), (15, 0), (41, 0), (42, 0), (43, 0), (48, 0), (49, 0), (9, 1), (13, 43)] | _ => []) (fun _ => [])) tt_ok mixed Tryd.func27 rfl rfl rfl rfl ?_; refine ⟨by simp, ?_⟩)
    repeat' (first | ((first | refine opt_some (getC_rows rfl rfl (by omega)) ?_ | refine opt_some (by dsimp only; exact getC_lent rfl rfl (by omega)) ?_ | refine opt_some rfl ?_ | refine ⟨_, (by simp only [nf, nl, nm, en, ints, setC_setC, Nat.reduceAdd, Nat.reduceMul]; exact rfl), ?_⟩ | refine ⟨_, pickT rfl, ?_⟩ | refine ⟨_, rfl, ?_⟩ | refine iteP_true rfl ?_ | refine iteP_false rfl ?_ | refine iteP_true ‹_› ?_ | refine iteP_false ‹_› ?_ | refine andK ?_ | refine andA ?_ | refine andT ?_); conv => whnf) | (refine iteP_intro (fun hb => ?_) (fun hb => ?_) <;> (conv => whnf)))
    (refine ⟨_, hC, ?_⟩; conv => whnf)
    repeat' (first | ((first | refine opt_some (getC_rows rfl rfl (by omega)) ?_ | refine opt_some (by dsimp only; exact getC_lent rfl rfl (by omega)) ?_ | refine opt_some rfl ?_ | refine ⟨_, (by simp only [nf, nl, nm, en, ints, setC_setC, Nat.reduceAdd, Nat.reduceMul]; exact rfl), ?_⟩ | refine ⟨_, pickT rfl, ?_⟩ | refine ⟨_, rfl, ?_⟩ | refine iteP_true rfl ?_ | refine iteP_false rfl ?_ | refine iteP_true ‹_› ?_ | refine iteP_false ‹_› ?_ | refine andK ?_ | refine andA ?_ | refine andT ?_); conv => whnf) | (refine iteP_intro (fun hb => ?_) (fun hb => ?_) <;> (conv => whnf)))
    rfl
  | true =>
  rw [h1, h2, show wcode true true = 0 from rfl] at hC
  obtain ⟨ms, e1, rfl, rfl, hl, hA⟩ := alpha_ok h1
  obtain ⟨w, e2, rfl, hwl, hwc⟩ := word_nat h2
  have hwd := word_wd hwc
  have hwn := natI_length w
  rw [rtR_in h1 h2 e1 e2]
  have hLw := length_ret (natI w)
  rw [hwn] at hLw
  have hK := checkCount_ret ms.length (natI ms) (w.length : Int) hd
  have hki := chkN_in h1 hwl e1
  by_cases hB : 1000000000000000 < trc ms.length (dep ms) w.length
  · rw [if_pos hB] at hki ⊢
    rw [hki] at hK
    (refine ret_of_den (E := en 76 [] (fun | 11 => [(10, 0), (11, 0), (12, 0), (41, 0), (42, 0), (43, 0), (9, 1), (13, 43)] | 14 => [(10, 0), (11, 0), (12, 0), (14, 0), (15, 0), (41, 0), (42, 0), (43, 0), (48, 0), (49, 0), (9, 1), (13, 43)] | _ => []) (fun _ => [])) tt_ok mixed Tryd.func27 rfl rfl rfl rfl ?_; refine ⟨by simp, ?_⟩)
    repeat' (first | ((first | refine opt_some (getC_rows rfl rfl (by omega)) ?_ | refine opt_some (by dsimp only; exact getC_lent rfl rfl (by omega)) ?_ | refine opt_some rfl ?_ | refine ⟨_, (by simp only [nf, nl, nm, en, ints, setC_setC, Nat.reduceAdd, Nat.reduceMul]; exact rfl), ?_⟩ | refine ⟨_, pickT rfl, ?_⟩ | refine ⟨_, rfl, ?_⟩ | refine iteP_true rfl ?_ | refine iteP_false rfl ?_ | refine iteP_true ‹_› ?_ | refine iteP_false ‹_› ?_ | refine andK ?_ | refine andA ?_ | refine andT ?_); conv => whnf) | (refine iteP_intro (fun hb => ?_) (fun hb => ?_) <;> (conv => whnf)))
    (refine ⟨_, hC, ?_⟩; conv => whnf)
    repeat' (first | ((first | refine opt_some (getC_rows rfl rfl (by omega)) ?_ | refine opt_some (by dsimp only; exact getC_lent rfl rfl (by omega)) ?_ | refine opt_some rfl ?_ | refine ⟨_, (by simp only [nf, nl, nm, en, ints, setC_setC, Nat.reduceAdd, Nat.reduceMul]; exact rfl), ?_⟩ | refine ⟨_, pickT rfl, ?_⟩ | refine ⟨_, rfl, ?_⟩ | refine iteP_true rfl ?_ | refine iteP_false rfl ?_ | refine iteP_true ‹_› ?_ | refine iteP_false ‹_› ?_ | refine andK ?_ | refine andA ?_ | refine andT ?_); conv => whnf) | (refine iteP_intro (fun hb => ?_) (fun hb => ?_) <;> (conv => whnf)))
    (refine ⟨_, hLw, ?_⟩; conv => whnf)
    repeat' (first | ((first | refine opt_some (getC_rows rfl rfl (by omega)) ?_ | refine opt_some (by dsimp only; exact getC_lent rfl rfl (by omega)) ?_ | refine opt_some rfl ?_ | refine ⟨_, (by simp only [nf, nl, nm, en, ints, setC_setC, Nat.reduceAdd, Nat.reduceMul]; exact rfl), ?_⟩ | refine ⟨_, pickT rfl, ?_⟩ | refine ⟨_, rfl, ?_⟩ | refine iteP_true rfl ?_ | refine iteP_false rfl ?_ | refine iteP_true ‹_› ?_ | refine iteP_false ‹_› ?_ | refine andK ?_ | refine andA ?_ | refine andT ?_); conv => whnf) | (refine iteP_intro (fun hb => ?_) (fun hb => ?_) <;> (conv => whnf)))
    (refine ⟨_, hK, ?_⟩; conv => whnf)
    repeat' (first | ((first | refine opt_some (getC_rows rfl rfl (by omega)) ?_ | refine opt_some (by dsimp only; exact getC_lent rfl rfl (by omega)) ?_ | refine opt_some rfl ?_ | refine ⟨_, (by simp only [nf, nl, nm, en, ints, setC_setC, Nat.reduceAdd, Nat.reduceMul]; exact rfl), ?_⟩ | refine ⟨_, pickT rfl, ?_⟩ | refine ⟨_, rfl, ?_⟩ | refine iteP_true rfl ?_ | refine iteP_false rfl ?_ | refine iteP_true ‹_› ?_ | refine iteP_false ‹_› ?_ | refine andK ?_ | refine andA ?_ | refine andT ?_); conv => whnf) | (refine iteP_intro (fun hb => ?_) (fun hb => ?_) <;> (conv => whnf)))
    rfl
  rw [if_neg hB] at hki ⊢
  rw [hki] at hK
  have hti := ties_ret ms.length (natI ms)
  have hNF := newForms_ret ms
  have hN := normal_ret ms w hA (by omega) hwd (by omega)
  have hp8 : 2 ^ ms.length ≤ 2 ^ 8 := Nat.pow_le_pow_right (by decide) hl
  have hfd := nform_wd hA hwd
  have hfl := nform_length hA hwd
  have hF0 : ∃ F, nform ms w = F := ⟨_, rfl⟩
  obtain ⟨F, hF⟩ := hF0
  rw [hF] at hN hfd hfl
  rw [hF]
  have hFn := natI_length F
  have hR0 : ∃ R, rtN ms 0 F = R := ⟨_, rfl⟩
  obtain ⟨R, hR⟩ := hR0
  rw [hR]
  have hkn0 : KnownF ms [] := fun e h => by cases h
  have hFi : ((F.length : Nat) : Int) = (((natI F).length : Nat) : Int) := by rw [hFn]
  (refine ret_of_den (E := en 76 [] (fun | 11 => [(10, 0), (11, 0), (12, 0), (41, 0), (42, 0), (43, 0), (9, 1), (13, 43)] | 14 => [(10, 0), (11, 0), (12, 0), (14, 0), (15, 0), (41, 0), (42, 0), (43, 0), (48, 0), (49, 0), (9, 1), (13, 43)] | _ => []) (fun _ => [])) tt_ok mixed Tryd.func27 rfl rfl rfl rfl ?_; refine ⟨by simp, ?_⟩)
  repeat' (first | ((first | refine opt_some (getC_rows rfl rfl (by omega)) ?_ | refine opt_some (by dsimp only; exact getC_lent rfl rfl (by omega)) ?_ | refine opt_some rfl ?_ | refine ⟨_, (by simp only [nf, nl, nm, en, ints, setC_setC, Nat.reduceAdd, Nat.reduceMul]; exact rfl), ?_⟩ | refine ⟨_, pickT rfl, ?_⟩ | refine ⟨_, rfl, ?_⟩ | refine iteP_true rfl ?_ | refine iteP_false rfl ?_ | refine iteP_true ‹_› ?_ | refine iteP_false ‹_› ?_ | refine andK ?_ | refine andA ?_ | refine andT ?_); conv => whnf) | (refine iteP_intro (fun hb => ?_) (fun hb => ?_) <;> (conv => whnf)))
  (refine ⟨_, hC, ?_⟩; conv => whnf)
  repeat' (first | ((first | refine opt_some (getC_rows rfl rfl (by omega)) ?_ | refine opt_some (by dsimp only; exact getC_lent rfl rfl (by omega)) ?_ | refine opt_some rfl ?_ | refine ⟨_, (by simp only [nf, nl, nm, en, ints, setC_setC, Nat.reduceAdd, Nat.reduceMul]; exact rfl), ?_⟩ | refine ⟨_, pickT rfl, ?_⟩ | refine ⟨_, rfl, ?_⟩ | refine iteP_true rfl ?_ | refine iteP_false rfl ?_ | refine iteP_true ‹_› ?_ | refine iteP_false ‹_› ?_ | refine andK ?_ | refine andA ?_ | refine andT ?_); conv => whnf) | (refine iteP_intro (fun hb => ?_) (fun hb => ?_) <;> (conv => whnf)))
  (refine ⟨_, hLw, ?_⟩; conv => whnf)
  repeat' (first | ((first | refine opt_some (getC_rows rfl rfl (by omega)) ?_ | refine opt_some (by dsimp only; exact getC_lent rfl rfl (by omega)) ?_ | refine opt_some rfl ?_ | refine ⟨_, (by simp only [nf, nl, nm, en, ints, setC_setC, Nat.reduceAdd, Nat.reduceMul]; exact rfl), ?_⟩ | refine ⟨_, pickT rfl, ?_⟩ | refine ⟨_, rfl, ?_⟩ | refine iteP_true rfl ?_ | refine iteP_false rfl ?_ | refine iteP_true ‹_› ?_ | refine iteP_false ‹_› ?_ | refine andK ?_ | refine andA ?_ | refine andT ?_); conv => whnf) | (refine iteP_intro (fun hb => ?_) (fun hb => ?_) <;> (conv => whnf)))
  (refine ⟨_, hK, ?_⟩; conv => whnf)
  repeat' (first | ((first | refine opt_some (getC_rows rfl rfl (by omega)) ?_ | refine opt_some (by dsimp only; exact getC_lent rfl rfl (by omega)) ?_ | refine opt_some rfl ?_ | refine ⟨_, (by simp only [nf, nl, nm, en, ints, setC_setC, Nat.reduceAdd, Nat.reduceMul]; exact rfl), ?_⟩ | refine ⟨_, pickT rfl, ?_⟩ | refine ⟨_, rfl, ?_⟩ | refine iteP_true rfl ?_ | refine iteP_false rfl ?_ | refine iteP_true ‹_› ?_ | refine iteP_false ‹_› ?_ | refine andK ?_ | refine andA ?_ | refine andT ?_); conv => whnf) | (refine iteP_intro (fun hb => ?_) (fun hb => ?_) <;> (conv => whnf)))
  (refine ⟨_, hti, ?_⟩; conv => whnf)
  repeat' (first | ((first | refine opt_some (getC_rows rfl rfl (by omega)) ?_ | refine opt_some (by dsimp only; exact getC_lent rfl rfl (by omega)) ?_ | refine opt_some rfl ?_ | refine ⟨_, (by simp only [nf, nl, nm, en, ints, setC_setC, Nat.reduceAdd, Nat.reduceMul]; exact rfl), ?_⟩ | refine ⟨_, pickT rfl, ?_⟩ | refine ⟨_, rfl, ?_⟩ | refine iteP_true rfl ?_ | refine iteP_false rfl ?_ | refine iteP_true ‹_› ?_ | refine iteP_false ‹_› ?_ | refine andK ?_ | refine andA ?_ | refine andT ?_); conv => whnf) | (refine iteP_intro (fun hb => ?_) (fun hb => ?_) <;> (conv => whnf)))
  (refine ⟨_, hNF, ?_⟩; conv => whnf)
  repeat' (first | ((first | refine opt_some (getC_rows rfl rfl (by omega)) ?_ | refine opt_some (by dsimp only; exact getC_lent rfl rfl (by omega)) ?_ | refine opt_some rfl ?_ | refine ⟨_, (by simp only [nf, nl, nm, en, ints, setC_setC, Nat.reduceAdd, Nat.reduceMul]; exact rfl), ?_⟩ | refine ⟨_, pickT rfl, ?_⟩ | refine ⟨_, rfl, ?_⟩ | refine iteP_true rfl ?_ | refine iteP_false rfl ?_ | refine iteP_true ‹_› ?_ | refine iteP_false ‹_› ?_ | refine andK ?_ | refine andA ?_ | refine andT ?_); conv => whnf) | (refine iteP_intro (fun hb => ?_) (fun hb => ?_) <;> (conv => whnf)))
  (refine ⟨_, hN, ?_⟩; conv => whnf)
  repeat' (first | ((first | refine opt_some (getC_rows rfl rfl (by omega)) ?_ | refine opt_some (by dsimp only; exact getC_lent rfl rfl (by omega)) ?_ | refine opt_some rfl ?_ | refine ⟨_, (by simp only [nf, nl, nm, en, ints, setC_setC, Nat.reduceAdd, Nat.reduceMul]; exact rfl), ?_⟩ | refine ⟨_, pickT rfl, ?_⟩ | refine ⟨_, rfl, ?_⟩ | refine iteP_true rfl ?_ | refine iteP_false rfl ?_ | refine iteP_true ‹_› ?_ | refine iteP_false ‹_› ?_ | refine andK ?_ | refine andA ?_ | refine andT ?_); conv => whnf) | (refine iteP_intro (fun hb => ?_) (fun hb => ?_) <;> (conv => whnf)))
  refine ⟨fun k vs => ∃ (i mask t : Nat) (es : Memo), i ≤ F.length ∧ mask < 2 ^ ms.length ∧ t ≤ i * 8000000000000008 ∧ t + rtN ms mask (F.drop i) = R ∧ KnownF ms es ∧ vs = [.one (.ptr [.shd (ints (natI ms)), memoC es]), .one (i64 t), .one (i64 mask), .one (ints (natI F)), .one (i64 F.length), .one (i64 i), .one (.shd (ints (natI ms))), .dead] ∧ k = F.length - i, rfl, ⟨_, 0, 0, 0, [], by omega, Nat.two_pow_pos _, by omega, by rw [List.drop_zero, Nat.zero_add]; exact hR, hkn0, by rw [hFi]; rfl, rfl⟩, ?_⟩
  rintro k vs ⟨i, mask, t, es, hi, hmk, htb, htR, hkn, rfl, rfl⟩
  unfold memoC
  repeat (first | ((first | refine opt_some (getC_rows rfl rfl (by omega)) ?_ | refine opt_some (by dsimp only; exact getC_lent rfl rfl (by omega)) ?_ | refine opt_some rfl ?_ | refine ⟨_, (by simp only [nf, nl, nm, en, ints, setC_setC, Nat.reduceAdd, Nat.reduceMul]; exact rfl), ?_⟩ | refine ⟨_, pickT rfl, ?_⟩ | refine ⟨_, rfl, ?_⟩ | refine iteP_true rfl ?_ | refine iteP_false rfl ?_ | refine iteP_true ‹_› ?_ | refine iteP_false ‹_› ?_ | refine andK ?_ | refine andA ?_ | refine andT ?_); conv => whnf))
  refine iteP_intro (fun hb => ?_) (fun hb => ?_) <;> (conv => whnf)
  · have hi' : i < F.length := by have := leT hb; omega
    have hgi : (natI F)[i]'(by omega) = ((F[i] : Nat) : Int) := natI_get _
    have hd := drop_cons hi'
    have ha0 : ∃ a, F[i] = a := ⟨_, rfl⟩
    obtain ⟨a, ha⟩ := ha0
    have hal : a < ms.length := by rw [← ha]; exact hfd _ (List.getElem_mem hi')
    rw [ha] at hgi hd
    have hm0 : ∃ m, F.length - (i + 1) = m := ⟨_, rfl⟩
    obtain ⟨m, hm⟩ := hm0
    rw [hd, rtN, List.length_drop, hm] at htR
    have hupto := smN_upto (f := trmN ms m mask) (L := ms.length) (b := 1000000000000001) (fun c _ => trmN_le _ _ _ _)
    have hAf := forbidden_ret ms mask a hal (by omega) hA.lt hmk
    have hafl := aftN_lt hl hmk hal
    repeat (first | ((first | refine opt_some (getC_rows rfl rfl (by omega)) ?_ | refine opt_some (by dsimp only; exact getC_lent rfl rfl (by omega)) ?_ | refine opt_some rfl ?_ | refine ⟨_, (by simp only [nf, nl, nm, en, ints, setC_setC, Nat.reduceAdd, Nat.reduceMul, hgi]; exact rfl), ?_⟩ | refine ⟨_, pickT rfl, ?_⟩ | refine ⟨_, rfl, ?_⟩ | refine iteP_true rfl ?_ | refine iteP_false rfl ?_ | refine iteP_true ‹_› ?_ | refine iteP_false ‹_› ?_ | refine andK ?_ | refine andA ?_ | refine andT ?_); conv => whnf))
    refine ⟨fun k vs => ∃ (b : Nat) (es : Memo), b ≤ a ∧ KnownF ms es ∧ vs = [.one (.ptr [.shd (ints (natI ms)), memoC es]), .one (i64 ((t + smN (trmN ms m mask) b : Nat) : Int)), .one (i64 mask), .one (i64 i), .one (i64 a), .one (ints (natI F)), .one (i64 F.length), .one (i64 i), .one (i64 a), .one (i64 b), .one (.shd (ints (natI ms))), .dead] ∧ k = a - b, rfl, ⟨_, 0, es, by omega, hkn, rfl, rfl⟩, ?_⟩
    rintro k vs ⟨b, es, hba, hkn, rfl, rfl⟩
    have hub := hupto b (by omega)
    have hub8 : smN (trmN ms m mask) b ≤ 8 * 1000000000000001 := Nat.le_trans hub (Nat.mul_le_mul_right _ (by omega))
    unfold memoC
    repeat (first | ((first | refine opt_some (getC_rows rfl rfl (by omega)) ?_ | refine opt_some (by dsimp only; exact getC_lent rfl rfl (by omega)) ?_ | refine opt_some rfl ?_ | refine ⟨_, (by simp only [nf, nl, nm, en, ints, setC_setC, Nat.reduceAdd, Nat.reduceMul]; exact rfl), ?_⟩ | refine ⟨_, pickT rfl, ?_⟩ | refine ⟨_, rfl, ?_⟩ | refine iteP_true rfl ?_ | refine iteP_false rfl ?_ | refine iteP_true ‹_› ?_ | refine iteP_false ‹_› ?_ | refine andK ?_ | refine andA ?_ | refine andT ?_); conv => whnf))
    refine iteP_intro (fun hc => ?_) (fun hc => ?_) <;> (conv => whnf)
    · have hbl : b < a := by have := leT hc; omega
      have hH := has_ret mask b (by omega) (by omega)
      have hss : smN (trmN ms m mask) (b + 1) = smN (trmN ms m mask) b + trmN ms m mask b := rfl
      by_cases hqb : mask.testBit b = true
      · have ht0 : trmN ms m mask b = 0 := by unfold trmN; rw [hqb]; rfl
        rw [hqb] at hH
        repeat (first | ((first | refine opt_some (getC_rows rfl rfl (by omega)) ?_ | refine opt_some (by dsimp only; exact getC_lent rfl rfl (by omega)) ?_ | refine opt_some rfl ?_ | refine ⟨_, (by simp only [nf, nl, nm, en, ints, setC_setC, Nat.reduceAdd, Nat.reduceMul]; exact rfl), ?_⟩ | refine ⟨_, pickT rfl, ?_⟩ | refine ⟨_, rfl, ?_⟩ | refine iteP_true rfl ?_ | refine iteP_false rfl ?_ | refine iteP_true ‹_› ?_ | refine iteP_false ‹_› ?_ | refine andK ?_ | refine andA ?_ | refine andT ?_); conv => whnf))
        (refine ⟨_, hH, ?_⟩; conv => whnf)
        repeat (first | ((first | refine opt_some (getC_rows rfl rfl (by omega)) ?_ | refine opt_some (by dsimp only; exact getC_lent rfl rfl (by omega)) ?_ | refine opt_some rfl ?_ | refine ⟨_, (by simp only [nf, nl, nm, en, ints, setC_setC, Nat.reduceAdd, Nat.reduceMul]; exact rfl), ?_⟩ | refine ⟨_, pickT rfl, ?_⟩ | refine ⟨_, rfl, ?_⟩ | refine iteP_true rfl ?_ | refine iteP_false rfl ?_ | refine iteP_true ‹_› ?_ | refine iteP_false ‹_› ?_ | refine andK ?_ | refine andA ?_ | refine andT ?_); conv => whnf))
        refine ⟨_, ?_, b + 1, es, hbl, hkn, ?_, rfl⟩
        · omega
        · rw [wrap_succ (by omega), hss, ht0]
          rfl
      · have hqb : mask.testBit b = false := by simpa using hqb
        have ht0 : trmN ms m mask b = tlN ms m (aftN ms mask b) := by unfold trmN; rw [hqb]; rfl
        have htl := tlN_le ms m (aftN ms mask b)
        have hbl2 : b < ms.length := by omega
        have hal2 := aftN_lt hl hmk hbl2
        have hAb := forbidden_ret ms mask b hbl2 (by omega) hA.lt hmk
        have hw1 : IntKind.i64.wrap (((natI F).length : Int) - (i : Int)) = ((m + 1 : Nat) : Int) := by rw [wrap_i64 (by omega) (by omega)]; omega
        have hw2 : IntKind.i64.wrap (((m + 1 : Nat) : Int) - 1) = (m : Int) := by rw [wrap_i64 (by omega) (by omega)]; omega
        have hrec := fcount_ex ms hA hl m (by omega) (aftN ms mask b) es hal2 hkn
        obtain ⟨r2, ⟨es2, rfl, hk2⟩, hr2⟩ := hrec
        have hwa : IntKind.i64.wrap (((t + smN (trmN ms m mask) b : Nat) : Int) + ((tlN ms m (aftN ms mask b) : Nat) : Int)) = ((t + smN (trmN ms m mask) (b + 1) : Nat) : Int) := by rw [hss, ht0, wrap_i64 (by omega) (by omega)]; omega
        rw [hqb] at hH
        unfold memoC at hr2
        unfold aftN at hr2 hwa
        repeat (first | ((first | refine opt_some (getC_rows rfl rfl (by omega)) ?_ | refine opt_some (by dsimp only; exact getC_lent rfl rfl (by omega)) ?_ | refine opt_some rfl ?_ | refine ⟨_, (by simp only [nf, nl, nm, en, ints, setC_setC, Nat.reduceAdd, Nat.reduceMul]; exact rfl), ?_⟩ | refine ⟨_, pickT rfl, ?_⟩ | refine ⟨_, rfl, ?_⟩ | refine iteP_true rfl ?_ | refine iteP_false rfl ?_ | refine iteP_true ‹_› ?_ | refine iteP_false ‹_› ?_ | refine andK ?_ | refine andA ?_ | refine andT ?_); conv => whnf))
        (refine ⟨_, hH, ?_⟩; conv => whnf)
        repeat (first | ((first | refine opt_some (getC_rows rfl rfl (by omega)) ?_ | refine opt_some (by dsimp only; exact getC_lent rfl rfl (by omega)) ?_ | refine opt_some rfl ?_ | refine ⟨_, (by simp only [nf, nl, nm, en, ints, setC_setC, Nat.reduceAdd, Nat.reduceMul]; exact rfl), ?_⟩ | refine ⟨_, pickT rfl, ?_⟩ | refine ⟨_, rfl, ?_⟩ | refine iteP_true rfl ?_ | refine iteP_false rfl ?_ | refine iteP_true ‹_› ?_ | refine iteP_false ‹_› ?_ | refine andK ?_ | refine andA ?_ | refine andT ?_); conv => whnf))
        (refine ⟨_, hAb, ?_⟩; conv => whnf)
        repeat (first | ((first | refine opt_some (getC_rows rfl rfl (by omega)) ?_ | refine opt_some (by dsimp only; exact getC_lent rfl rfl (by omega)) ?_ | refine opt_some rfl ?_ | refine ⟨_, (by simp only [nf, nl, nm, en, ints, setC_setC, Nat.reduceAdd, Nat.reduceMul, hw1, hw2]; exact rfl), ?_⟩ | refine ⟨_, pickT rfl, ?_⟩ | refine ⟨_, rfl, ?_⟩ | refine iteP_true rfl ?_ | refine iteP_false rfl ?_ | refine iteP_true ‹_› ?_ | refine iteP_false ‹_› ?_ | refine andK ?_ | refine andA ?_ | refine andT ?_); conv => whnf))
        (refine ⟨_, hr2, ?_⟩; conv => whnf)
        repeat (first | ((first | refine opt_some (getC_rows rfl rfl (by omega)) ?_ | refine opt_some (by dsimp only; exact getC_lent rfl rfl (by omega)) ?_ | refine opt_some rfl ?_ | refine ⟨_, (by simp only [nf, nl, nm, en, ints, setC_setC, Nat.reduceAdd, Nat.reduceMul, hwa]; exact rfl), ?_⟩ | refine ⟨_, pickT rfl, ?_⟩ | refine ⟨_, rfl, ?_⟩ | refine iteP_true rfl ?_ | refine iteP_false rfl ?_ | refine iteP_true ‹_› ?_ | refine iteP_false ‹_› ?_ | refine andK ?_ | refine andA ?_ | refine andT ?_); conv => whnf))
        refine ⟨_, ?_, b + 1, es2, hbl, hk2, ?_, rfl⟩
        · omega
        · rw [wrap_succ (by omega)]
          rfl
    · have hbe : b = a := by have := leF hc; omega
      subst hbe
      repeat (first | ((first | refine opt_some (getC_rows rfl rfl (by omega)) ?_ | refine opt_some (by dsimp only; exact getC_lent rfl rfl (by omega)) ?_ | refine opt_some rfl ?_ | refine ⟨_, (by simp only [nf, nl, nm, en, ints, setC_setC, Nat.reduceAdd, Nat.reduceMul]; exact rfl), ?_⟩ | refine ⟨_, pickT rfl, ?_⟩ | refine ⟨_, rfl, ?_⟩ | refine iteP_true rfl ?_ | refine iteP_false rfl ?_ | refine iteP_true ‹_› ?_ | refine iteP_false ‹_› ?_ | refine andK ?_ | refine andA ?_ | refine andT ?_); conv => whnf))
      (refine ⟨_, hAf, ?_⟩; conv => whnf)
      repeat (first | ((first | refine opt_some (getC_rows rfl rfl (by omega)) ?_ | refine opt_some (by dsimp only; exact getC_lent rfl rfl (by omega)) ?_ | refine opt_some rfl ?_ | refine ⟨_, (by simp only [nf, nl, nm, en, ints, setC_setC, Nat.reduceAdd, Nat.reduceMul]; exact rfl), ?_⟩ | refine ⟨_, pickT rfl, ?_⟩ | refine ⟨_, rfl, ?_⟩ | refine iteP_true rfl ?_ | refine iteP_false rfl ?_ | refine iteP_true ‹_› ?_ | refine iteP_false ‹_› ?_ | refine andK ?_ | refine andA ?_ | refine andT ?_); conv => whnf))
      refine ⟨_, ?_, i + 1, aftN ms mask b, t + smN (trmN ms m mask) b, es, hi', hafl, by omega, by omega, hkn, ?_, rfl⟩
      · omega
      · rw [wrap_succ (by omega)]
        rfl
  · have hie : i = F.length := by have := leF hb; omega
    rw [hie, List.drop_length, rtN, Nat.add_zero] at htR
    subst htR
    repeat' (first | ((first | refine opt_some (getC_rows rfl rfl (by omega)) ?_ | refine opt_some (by dsimp only; exact getC_lent rfl rfl (by omega)) ?_ | refine opt_some rfl ?_ | refine ⟨_, (by simp only [nf, nl, nm, en, ints, setC_setC, Nat.reduceAdd, Nat.reduceMul]; exact rfl), ?_⟩ | refine ⟨_, pickT rfl, ?_⟩ | refine ⟨_, rfl, ?_⟩ | refine iteP_true rfl ?_ | refine iteP_false rfl ?_ | refine iteP_true ‹_› ?_ | refine iteP_false ‹_› ?_ | refine andK ?_ | refine andA ?_ | refine andT ?_); conv => whnf) | (refine iteP_intro (fun hb => ?_) (fun hb => ?_) <;> (conv => whnf)))
    rfl
end Go.Proofs.YtihdeagknggeiaaDoor
