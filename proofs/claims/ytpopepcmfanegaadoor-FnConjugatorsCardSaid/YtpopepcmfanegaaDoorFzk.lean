import Derived.Test.YtpopepcmfanegaaDoorFzj
set_option autoImplicit false
set_option linter.unusedSimpArgs false
set_option linter.unusedVariables false
namespace Go.Proofs.YtpopepcmfanegaaDoor
open Go.Den
theorem chkC_w {n : Int} {ds xs ys : List Int} : chkC n ds xs ys = if wcode (alphaOk n ds) (wordN n xs && wordN n ys) = 0 then (if 1000 < (cjW (ds.map Int.toNat) (xs.map Int.toNat)).length then 3 else 0) else wcode (alphaOk n ds) (wordN n xs && wordN n ys) := by
  unfold chkC wcode
  rw [← pcW_fst, List.length_map]
  cases alphaOk n ds <;> cases wordN n xs <;> cases wordN n ys <;> simp
theorem fnd_dec {v : List Nat} {S : List (List Nat)} : decide (fndW (natI v) (S.map natI) 0 ≥ 0) = decide (v ∈ S) := by
  have h := fndW_neg (w := natI v) (rs := S.map natI) (k := 0) (Int.le_refl _)
  rw [natI_mem] at h
  rw [decide_eq_decide]
  constructor
  · intro hh
    exact Decidable.not_not.1 fun hn => by have := h.2 hn; omega
  · intro hh
    have : ¬ fndW (natI v) (S.map natI) 0 < 0 := fun hn => h.1 hn hh
    omega
set_option maxHeartbeats 4000000 in
set_option maxRecDepth 100000 in
theorem arecS_ret (n : Int) (ds xs ys : List Int) (hd : ds.length < 2 ^ 62) (hx : xs.length < 2 ^ 62) (hy : ys.length < 2 ^ 62) : Ret Tryd.prog G0 104 [⟨.ro, .agg [i64 n, ints ds]⟩, ⟨.ro, .one (ints xs)⟩, ⟨.ro, .one (ints ys)⟩] ⟨.tup [(false, [.c (.bool (decide (chkC n ds xs ys = 0) && decide (nform (ds.map Int.toNat) (ys.map Int.toNat) ∈ cjW (ds.map Int.toNat) (xs.map Int.toNat))))]), (false, [i64 (chkC n ds xs ys)])], []⟩ := by
  have hcd := l03Code_ret n ds xs ys hd hx hy
  by_cases h0 : wcode (alphaOk n ds) (wordN n xs && wordN n ys) = 0
  rotate_left
  · have e : chkC n ds xs ys = wcode (alphaOk n ds) (wordN n xs && wordN n ys) := by rw [chkC_w, if_neg h0]
    have h1 : decide (chkC n ds xs ys = 0) = false := decide_eq_false (by rw [e]; exact h0)
    rw [h1, Bool.false_and, e]
    have hE : ∃ c, wcode (alphaOk n ds) (wordN n xs && wordN n ys) = c := ⟨_, rfl⟩
    obtain ⟨c, hc⟩ := hE
    rw [hc] at hcd h0 ⊢
    have h2 : (c != 0) = true := by simpa using h0
    (refine ret_of_den (E := en 34 [] (fun _ => []) (fun _ => [])) tt_ok mixed Tryd.func104 rfl rfl rfl rfl ?_; refine ⟨by simp, ?_⟩)
    repeat' (first | ((first | refine opt_some (getC_rows rfl rfl (by omega)) ?_ | refine opt_some (by dsimp only; exact getC_lent rfl rfl (by omega)) ?_ | refine opt_some rfl ?_ | refine ⟨_, (by simp only [nf, nl, nm, en, ints, setC_setC, Nat.reduceAdd, Nat.reduceMul]; exact rfl), ?_⟩ | refine ⟨_, pickT rfl, ?_⟩ | refine ⟨_, rfl, ?_⟩ | refine iteP_true rfl ?_ | refine iteP_false rfl ?_ | refine iteP_true ‹_› ?_ | refine iteP_false ‹_› ?_ | refine andK ?_ | refine andA ?_ | refine andT ?_); conv => whnf) | (refine iteP_intro (fun hb => ?_) (fun hb => ?_) <;> (conv => whnf)))
    (refine ⟨_, hcd, ?_⟩; conv => whnf)
    repeat' (first | ((first | refine opt_some (getC_rows rfl rfl (by omega)) ?_ | refine opt_some (by dsimp only; exact getC_lent rfl rfl (by omega)) ?_ | refine opt_some rfl ?_ | refine ⟨_, (by simp only [nf, nl, nm, en, ints, setC_setC, Nat.reduceAdd, Nat.reduceMul]; exact rfl), ?_⟩ | refine ⟨_, pickT rfl, ?_⟩ | refine ⟨_, rfl, ?_⟩ | refine iteP_true rfl ?_ | refine iteP_false rfl ?_ | refine iteP_true ‹_› ?_ | refine iteP_false ‹_› ?_ | refine andK ?_ | refine andA ?_ | refine andT ?_); conv => whnf) | (refine iteP_intro (fun hb => ?_) (fun hb => ?_) <;> (conv => whnf)))
    rfl
  · have h1 : alphaOk n ds = true := by
      cases h : alphaOk n ds with
      | true => rfl
      | false => rw [h] at h0; cases h0
    have h2 : (wordN n xs && wordN n ys) = true := by
      cases h : (wordN n xs && wordN n ys) with
      | true => rfl
      | false => rw [h1, h] at h0; cases h0
    have h3 := h2
    rw [Bool.and_eq_true] at h3
    have e : chkC n ds xs ys = if 1000 < (cjW (ds.map Int.toNat) (xs.map Int.toNat)).length then 3 else 0 := by rw [chkC_w, if_pos h0]
    rw [h0] at hcd
    rw [e]
    obtain ⟨ms, e1, rfl, rfl, hl, hA⟩ := alpha_ok h1
    obtain ⟨w, e2, rfl, hwl, hwc⟩ := word_nat h3.1
    obtain ⟨v, e3, rfl, hvl, hvc⟩ := word_nat h3.2
    have hwd := word_wd hwc
    have hvd := word_wd hvc
    rw [e1, e2, e3]
    obtain ⟨r, ⟨fs, rfl⟩, hr⟩ := l07Class_ex ms w hA hl hwd hwl
    by_cases hb : 1000 < (cjW ms w).length
    · rw [if_pos hb, if_pos hb, decide_eq_true hb] at hr
      rw [if_pos hb]
      (refine ret_of_den (E := en 34 [] (fun _ => []) (fun _ => [])) tt_ok mixed Tryd.func104 rfl rfl rfl rfl ?_; refine ⟨by simp, ?_⟩)
      repeat' (first | ((first | refine opt_some (getC_rows rfl rfl (by omega)) ?_ | refine opt_some (by dsimp only; exact getC_lent rfl rfl (by omega)) ?_ | refine opt_some rfl ?_ | refine ⟨_, (by simp only [nf, nl, nm, en, ints, setC_setC, Nat.reduceAdd, Nat.reduceMul]; exact rfl), ?_⟩ | refine ⟨_, pickT rfl, ?_⟩ | refine ⟨_, rfl, ?_⟩ | refine iteP_true rfl ?_ | refine iteP_false rfl ?_ | refine iteP_true ‹_› ?_ | refine iteP_false ‹_› ?_ | refine andK ?_ | refine andA ?_ | refine andT ?_); conv => whnf) | (refine iteP_intro (fun hb => ?_) (fun hb => ?_) <;> (conv => whnf)))
      (refine ⟨_, hcd, ?_⟩; conv => whnf)
      repeat' (first | ((first | refine opt_some (getC_rows rfl rfl (by omega)) ?_ | refine opt_some (by dsimp only; exact getC_lent rfl rfl (by omega)) ?_ | refine opt_some rfl ?_ | refine ⟨_, (by simp only [nf, nl, nm, en, ints, setC_setC, Nat.reduceAdd, Nat.reduceMul]; exact rfl), ?_⟩ | refine ⟨_, pickT rfl, ?_⟩ | refine ⟨_, rfl, ?_⟩ | refine iteP_true rfl ?_ | refine iteP_false rfl ?_ | refine iteP_true ‹_› ?_ | refine iteP_false ‹_› ?_ | refine andK ?_ | refine andA ?_ | refine andT ?_); conv => whnf) | (refine iteP_intro (fun hb => ?_) (fun hb => ?_) <;> (conv => whnf)))
      (refine ⟨_, hr, ?_⟩; conv => whnf)
      repeat' (first | ((first | refine opt_some (getC_rows rfl rfl (by omega)) ?_ | refine opt_some (by dsimp only; exact getC_lent rfl rfl (by omega)) ?_ | refine opt_some rfl ?_ | refine ⟨_, (by simp only [nf, nl, nm, en, ints, setC_setC, Nat.reduceAdd, Nat.reduceMul]; exact rfl), ?_⟩ | refine ⟨_, pickT rfl, ?_⟩ | refine ⟨_, rfl, ?_⟩ | refine iteP_true rfl ?_ | refine iteP_false rfl ?_ | refine iteP_true ‹_› ?_ | refine iteP_false ‹_› ?_ | refine andK ?_ | refine andA ?_ | refine andT ?_); conv => whnf) | (refine iteP_intro (fun hb => ?_) (fun hb => ?_) <;> (conv => whnf)))
      rfl
    · rw [if_neg hb, if_neg hb, decide_eq_false hb] at hr
      rw [if_neg hb, decide_eq_true rfl, Bool.true_and]
      have hN := l03Normal_ret ms v hA (by omega) hvd (by omega)
      have hG := cjW_all hA hwd
      have hF := l07Find_ret ((cjW ms w).map natI) (natI (nform ms v)) (by rw [List.length_map]; omega) (fun x hx => by obtain ⟨y, hy, rfl⟩ := List.mem_map.1 hx; rw [natI_length, (hG.ok y hy).2]; omega)
      have hdc := fnd_dec (v := nform ms v) (S := cjW ms w)
      rw [rowsC_map] at hr
      unfold rowsI at hF
      rw [show ((cjW ms w).map natI).length = (cjW ms w).length from List.length_map _] at hF
      (refine ret_of_den (E := en 34 [] (fun _ => []) (fun _ => [])) tt_ok mixed Tryd.func104 rfl rfl rfl rfl ?_; refine ⟨by simp, ?_⟩)
      repeat' (first | ((first | refine opt_some (getC_rows rfl rfl (by omega)) ?_ | refine opt_some (by dsimp only; exact getC_lent rfl rfl (by omega)) ?_ | refine opt_some rfl ?_ | refine ⟨_, (by simp only [nf, nl, nm, en, ints, setC_setC, Nat.reduceAdd, Nat.reduceMul]; exact rfl), ?_⟩ | refine ⟨_, pickT rfl, ?_⟩ | refine ⟨_, rfl, ?_⟩ | refine iteP_true rfl ?_ | refine iteP_false rfl ?_ | refine iteP_true ‹_› ?_ | refine iteP_false ‹_› ?_ | refine andK ?_ | refine andA ?_ | refine andT ?_); conv => whnf) | (refine iteP_intro (fun hb => ?_) (fun hb => ?_) <;> (conv => whnf)))
      (refine ⟨_, hcd, ?_⟩; conv => whnf)
      repeat' (first | ((first | refine opt_some (getC_rows rfl rfl (by omega)) ?_ | refine opt_some (by dsimp only; exact getC_lent rfl rfl (by omega)) ?_ | refine opt_some rfl ?_ | refine ⟨_, (by simp only [nf, nl, nm, en, ints, setC_setC, Nat.reduceAdd, Nat.reduceMul]; exact rfl), ?_⟩ | refine ⟨_, pickT rfl, ?_⟩ | refine ⟨_, rfl, ?_⟩ | refine iteP_true rfl ?_ | refine iteP_false rfl ?_ | refine iteP_true ‹_› ?_ | refine iteP_false ‹_› ?_ | refine andK ?_ | refine andA ?_ | refine andT ?_); conv => whnf) | (refine iteP_intro (fun hb => ?_) (fun hb => ?_) <;> (conv => whnf)))
      (refine ⟨_, hr, ?_⟩; conv => whnf)
      repeat' (first | ((first | refine opt_some (getC_rows rfl rfl (by omega)) ?_ | refine opt_some (by dsimp only; exact getC_lent rfl rfl (by omega)) ?_ | refine opt_some rfl ?_ | refine ⟨_, (by simp only [nf, nl, nm, en, ints, setC_setC, Nat.reduceAdd, Nat.reduceMul]; exact rfl), ?_⟩ | refine ⟨_, pickT rfl, ?_⟩ | refine ⟨_, rfl, ?_⟩ | refine iteP_true rfl ?_ | refine iteP_false rfl ?_ | refine iteP_true ‹_› ?_ | refine iteP_false ‹_› ?_ | refine andK ?_ | refine andA ?_ | refine andT ?_); conv => whnf) | (refine iteP_intro (fun hb => ?_) (fun hb => ?_) <;> (conv => whnf)))
      (refine ⟨_, hN, ?_⟩; conv => whnf)
      repeat' (first | ((first | refine opt_some (getC_rows rfl rfl (by omega)) ?_ | refine opt_some (by dsimp only; exact getC_lent rfl rfl (by omega)) ?_ | refine opt_some rfl ?_ | refine ⟨_, (by simp only [nf, nl, nm, en, ints, setC_setC, Nat.reduceAdd, Nat.reduceMul]; exact rfl), ?_⟩ | refine ⟨_, pickT rfl, ?_⟩ | refine ⟨_, rfl, ?_⟩ | refine iteP_true rfl ?_ | refine iteP_false rfl ?_ | refine iteP_true ‹_› ?_ | refine iteP_false ‹_› ?_ | refine andK ?_ | refine andA ?_ | refine andT ?_); conv => whnf) | (refine iteP_intro (fun hb => ?_) (fun hb => ?_) <;> (conv => whnf)))
      (refine ⟨_, hF, ?_⟩; conv => whnf)
      repeat' (first | ((first | refine opt_some (getC_rows rfl rfl (by omega)) ?_ | refine opt_some (by dsimp only; exact getC_lent rfl rfl (by omega)) ?_ | refine opt_some rfl ?_ | refine ⟨_, (by simp only [nf, nl, nm, en, ints, setC_setC, Nat.reduceAdd, Nat.reduceMul]; exact rfl), ?_⟩ | refine ⟨_, pickT rfl, ?_⟩ | refine ⟨_, rfl, ?_⟩ | refine iteP_true rfl ?_ | refine iteP_false rfl ?_ | refine iteP_true ‹_› ?_ | refine iteP_false ‹_› ?_ | refine andK ?_ | refine andA ?_ | refine andT ?_); conv => whnf) | (refine iteP_intro (fun hb => ?_) (fun hb => ?_) <;> (conv => whnf)))
      rw [← hdc]
      rfl
theorem pcL_ext (ms r b : List Nat) : ∀ (M : List Nat) (out : List (List Nat × List Nat)), ∃ t, pcL ms r b M out = out ++ t
  | [], out => ⟨[], by simp [pcL]⟩
  | a :: M, out => by
    show ∃ t, pcL ms r b M (if 1000 < out.length then out else if rotN ms r a ∈ out.map (·.1) then out else out ++ [(rotN ms r a, b ++ [a])]) = out ++ t
    obtain ⟨t, ht⟩ := pcL_ext ms r b M (if 1000 < out.length then out else if rotN ms r a ∈ out.map (·.1) then out else out ++ [(rotN ms r a, b ++ [a])])
    rw [ht]
    split
    · exact ⟨t, rfl⟩
    · split
      · exact ⟨t, rfl⟩
      · exact ⟨_, List.append_assoc ..⟩
theorem pcF_ext (ms : List Nat) : ∀ (f i : Nat) (out : List (List Nat × List Nat)), ∃ t, pcF ms f i out = out ++ t
  | 0, _, out => ⟨[], by simp [pcF]⟩
  | f + 1, i, out => by
    rw [pcF]
    split
    · obtain ⟨t, ht⟩ := pcL_ext ms (out.getD i ([], [])).1 (out.getD i ([], [])).2 (fsts ms (out.getD i ([], [])).1) out
      rw [ht]
      obtain ⟨t2, ht2⟩ := pcF_ext ms f (i + 1) (out ++ t)
      rw [ht2]
      exact ⟨_, List.append_assoc ..⟩
    · exact ⟨[], by simp⟩
theorem pcF_stop {ms : List Nat} {out : List (List Nat × List Nat)} {i : Nat} (h : ¬ i < out.length) : ∀ f, pcF ms f i out = out
  | 0 => rfl
  | f + 1 => by rw [pcF, if_neg (fun hh => h hh.1)]
/-- The first a letters. -/
def fstA (ms r : List Nat) (a : Nat) : List Nat := (List.range a).filter fun c => canF ms c r
theorem fstA_succ (ms r : List Nat) (a : Nat) : fstA ms r (a + 1) = if canF ms a r then fstA ms r a ++ [a] else fstA ms r a := by
  unfold fstA
  rw [List.range_succ, List.filter_append]
  cases h : canF ms a r <;> simp [h]
theorem fstA_pre (ms r : List Nat) {a : Nat} : ∀ d, ∃ t, fstA ms r (a + d) = fstA ms r a ++ t
  | 0 => ⟨[], by simp⟩
  | d + 1 => by
    obtain ⟨t, ht⟩ := fstA_pre ms r (a := a) d
    rw [← Nat.add_assoc, fstA_succ, ht]
    split
    · exact ⟨_, List.append_assoc ..⟩
    · exact ⟨t, rfl⟩
theorem pcL_part {ms r b : List Nat} {ps qs : List (List Nat × List Nat)} {a : Nat} (ha : a ≤ ms.length) (h : pcL ms r b (fstA ms r a) ps = qs) : ∃ t, pcL ms r b (fsts ms r) ps = qs ++ t := by
  obtain ⟨t, ht⟩ := fstA_pre ms r (a := a) (ms.length - a)
  rw [show a + (ms.length - a) = ms.length by omega] at ht
  rw [show fsts ms r = fstA ms r ms.length from rfl, ht, pcL_app, h]
  exact pcL_ext ms r b t qs
theorem rowsP1 (qs : List (List Nat × List Nat)) (p : List Nat × List Nat) : Cell.sl false 1 (qs.length + 1) ((qs.map fun p => natI p.1).map ints ++ [ints (natI p.1)]) = .sl false 1 (qs ++ [p]).length (((qs ++ [p]).map fun p => natI p.1).map ints) := by simp
theorem rowsP2 (qs : List (List Nat × List Nat)) (p : List Nat × List Nat) : Cell.sl false 1 (qs.length + 1) ((qs.map fun p => natI p.2).map ints ++ [ints (natI p.2)]) = .sl false 1 (qs ++ [p]).length (((qs ++ [p]).map fun p => natI p.2).map ints) := by simp
set_option maxHeartbeats 4000000 in
set_option maxRecDepth 100000 in
theorem cjsBad_ret (n : Int) (ds xs ys : List Int) (hd : ds.length < 2 ^ 62) (hx : xs.length < 2 ^ 62) (hy : ys.length < 2 ^ 62) (h0 : chkC n ds xs ys ≠ 0) : Ret Tryd.prog G0 44 [⟨.ro, .agg [i64 n, ints ds]⟩, ⟨.ro, .one (ints xs)⟩, ⟨.ro, .one (ints ys)⟩] ⟨.tup [(false, [nilS]), (false, [i64 (chkC n ds xs ys)])], []⟩ := by
  have hC := arecS_ret n ds xs ys hd hx hy
  rw [decide_eq_false h0, Bool.false_and] at hC
  have hE : ∃ c, chkC n ds xs ys = c := ⟨_, rfl⟩
  obtain ⟨c, hc⟩ := hE
  rw [hc] at hC h0 ⊢
  have h2 : (c != 0) = true := by simpa using h0
  have h3 : (c == 0) = false := by simpa using h0
  (refine ret_of_den (E := en 102 [] (fun | 9 => [(3, 0), (10, 0), (11, 0), (12, 0), (13, 0)] | 16 => [(3, 0), (10, 0), (11, 0), (12, 0), (13, 0), (14, 0)] | _ => []) (fun _ => [])) tt_ok mixed Tryd.func44 rfl rfl rfl rfl ?_; refine ⟨by simp, ?_⟩)
  repeat' (first | ((first | refine opt_some (getC_rows rfl rfl (by omega)) ?_ | refine opt_some (by dsimp only; exact getC_lent rfl rfl (by omega)) ?_ | refine opt_some rfl ?_ | refine ⟨_, (by simp only [nf, nl, nm, en, ints, setC_setC, Nat.reduceAdd, Nat.reduceMul]; exact rfl), ?_⟩ | refine ⟨_, pickT rfl, ?_⟩ | refine ⟨_, rfl, ?_⟩ | refine iteP_true rfl ?_ | refine iteP_false rfl ?_ | refine iteP_true ‹_› ?_ | refine iteP_false ‹_› ?_ | refine andK ?_ | refine andA ?_ | refine andT ?_); conv => whnf) | (refine iteP_intro (fun hb => ?_) (fun hb => ?_) <;> (conv => whnf)))
  (refine ⟨_, hC, ?_⟩; conv => whnf)
  repeat' (first | ((first | refine opt_some (getC_rows rfl rfl (by omega)) ?_ | refine opt_some (by dsimp only; exact getC_lent rfl rfl (by omega)) ?_ | refine opt_some rfl ?_ | refine ⟨_, (by simp only [nf, nl, nm, en, ints, setC_setC, Nat.reduceAdd, Nat.reduceMul]; exact rfl), ?_⟩ | refine ⟨_, pickT rfl, ?_⟩ | refine ⟨_, rfl, ?_⟩ | refine iteP_true rfl ?_ | refine iteP_false rfl ?_ | refine iteP_true ‹_› ?_ | refine iteP_false ‹_› ?_ | refine andK ?_ | refine andA ?_ | refine andT ?_); conv => whnf) | (refine iteP_intro (fun hb => ?_) (fun hb => ?_) <;> (conv => whnf)))
  rfl
set_option maxHeartbeats 4000000 in
set_option maxRecDepth 100000 in
theorem cjsNone_ret (n : Int) (ds xs ys : List Int) (hd : ds.length < 2 ^ 62) (hx : xs.length < 2 ^ 62) (hy : ys.length < 2 ^ 62) (h0 : chkC n ds xs ys = 0) (hm : nform (ds.map Int.toNat) (ys.map Int.toNat) ∉ cjW (ds.map Int.toNat) (xs.map Int.toNat)) : Ret Tryd.prog G0 44 [⟨.ro, .agg [i64 n, ints ds]⟩, ⟨.ro, .one (ints xs)⟩, ⟨.ro, .one (ints ys)⟩] ⟨.tup [(false, [nilS]), (false, [i64 4])], []⟩ := by
  have hC := arecS_ret n ds xs ys hd hx hy
  rw [decide_eq_false hm, Bool.and_false, h0] at hC
  (refine ret_of_den (E := en 102 [] (fun | 9 => [(3, 0), (10, 0), (11, 0), (12, 0), (13, 0)] | 16 => [(3, 0), (10, 0), (11, 0), (12, 0), (13, 0), (14, 0)] | _ => []) (fun _ => [])) tt_ok mixed Tryd.func44 rfl rfl rfl rfl ?_; refine ⟨by simp, ?_⟩)
  repeat' (first | ((first | refine opt_some (getC_rows rfl rfl (by omega)) ?_ | refine opt_some (by dsimp only; exact getC_lent rfl rfl (by omega)) ?_ | refine opt_some rfl ?_ | refine ⟨_, (by simp only [nf, nl, nm, en, ints, setC_setC, Nat.reduceAdd, Nat.reduceMul]; exact rfl), ?_⟩ | refine ⟨_, pickT rfl, ?_⟩ | refine ⟨_, rfl, ?_⟩ | refine iteP_true rfl ?_ | refine iteP_false rfl ?_ | refine iteP_true ‹_› ?_ | refine iteP_false ‹_› ?_ | refine andK ?_ | refine andA ?_ | refine andT ?_); conv => whnf) | (refine iteP_intro (fun hb => ?_) (fun hb => ?_) <;> (conv => whnf)))
  (refine ⟨_, hC, ?_⟩; conv => whnf)
  repeat' (first | ((first | refine opt_some (getC_rows rfl rfl (by omega)) ?_ | refine opt_some (by dsimp only; exact getC_lent rfl rfl (by omega)) ?_ | refine opt_some rfl ?_ | refine ⟨_, (by simp only [nf, nl, nm, en, ints, setC_setC, Nat.reduceAdd, Nat.reduceMul]; exact rfl), ?_⟩ | refine ⟨_, pickT rfl, ?_⟩ | refine ⟨_, rfl, ?_⟩ | refine iteP_true rfl ?_ | refine iteP_false rfl ?_ | refine iteP_true ‹_› ?_ | refine iteP_false ‹_› ?_ | refine andK ?_ | refine andA ?_ | refine andT ?_); conv => whnf) | (refine iteP_intro (fun hb => ?_) (fun hb => ?_) <;> (conv => whnf)))
  rfl
end Go.Proofs.YtpopepcmfanegaaDoor
