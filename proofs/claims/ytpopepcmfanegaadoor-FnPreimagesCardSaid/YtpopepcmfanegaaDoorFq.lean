import Derived.Test.YtpopepcmfanegaaDoorFp
set_option autoImplicit false
set_option linter.unusedSimpArgs false
set_option linter.unusedVariables false
namespace Go.Proofs.YtpopepcmfanegaaDoor
open Go.Den
/-- Are there words over m letters for n letters? -/
def mapOk (n m : Int) (rs : List (List Int)) : Bool := decide ((rs.length : Int) = n) && rs.all fun w => wordN m w
/-- Do the images of independent letters commute? -/
def respN (ms ds : List Nat) (im : List (List Nat)) : Bool := (List.range ms.length).all fun a => (List.range a).all fun b => dep ms a b || comN ds (im.getD a []) (im.getD b [])
theorem respN_of {ms ds : List Nat} {im : List (List Nat)} (h : ∀ a < ms.length, ∀ b < a, (dep ms a b || comN ds (im.getD a []) (im.getD b [])) = true) : respN ms ds im = true := by
  unfold respN
  simp only [List.all_eq_true, List.mem_range]
  exact h
theorem respN_all {ms ds : List Nat} {im : List (List Nat)} (hA : Alpha ms) (h : respN ms ds im = true) {a b : Nat} (ha : a < ms.length) (hb : b < ms.length) : (dep ms a b || comN ds (im.getD a []) (im.getD b [])) = true := by
  unfold respN at h
  simp only [List.all_eq_true, List.mem_range] at h
  rcases Nat.lt_trichotomy a b with hl | rfl | hl
  · rw [hA.sym, comN_comm]
    exact h b hb a hl
  · rw [hA.self a ha, Bool.true_or]
  · exact h a ha b hl
theorem respN_bad {ms ds : List Nat} {im : List (List Nat)} (hA : Alpha ms) {a b : Nat} (ha : a < ms.length) (hb : b < ms.length) (h1 : dep ms a b = false) (h2 : comN ds (im.getD a []) (im.getD b []) = false) : respN ms ds im = false := by
  cases h : respN ms ds im with
  | false => rfl
  | true => have := respN_all hA h ha hb; rw [h1, h2] at this; cases this
/-- Rows of words. -/
theorem rows_nat {m : Int} {rs : List (List Int)} (h : (rs.all fun w => wordN m w) = true) : ∃ im : List (List Nat), rs.map (·.map Int.toNat) = im ∧ rs = im.map natI ∧ ∀ w ∈ im, w.length ≤ 24 ∧ ∀ c ∈ w, (c : Int) < m := by
  rw [List.all_eq_true] at h
  refine ⟨_, rfl, ?_, fun w hw => ?_⟩
  · rw [List.map_map]
    conv => lhs; rw [← List.map_id rs]
    refine List.map_congr_left fun x hx => ?_
    obtain ⟨w, h1, h2, -⟩ := word_nat (h x hx)
    simp only [id, Function.comp]
    rw [h1, ← h2]
  · obtain ⟨x, hx, rfl⟩ := List.mem_map.1 hw
    obtain ⟨w, h1, -, h3, h4⟩ := word_nat (h x hx)
    rw [h1]
    exact ⟨h3, h4⟩
theorem ints_append (x y : List Int) : ints (x ++ y) = .sl false 1 (x.length + y.length) (x.map i64 ++ y.map i64) := by simp [ints]
/-- The words of a letter map. -/
def Wds (ds : List Nat) (im : List (List Nat)) : Prop := ∀ w ∈ im, w.length ≤ 24 ∧ Wd ds w
theorem Wds.get {ds : List Nat} {im : List (List Nat)} (h : Wds ds im) {a : Nat} (ha : a < im.length) : (im.getD a []).length ≤ 24 ∧ Wd ds (im.getD a []) := by
  rw [List.getD_eq_getElem?_getD, List.getElem?_eq_getElem ha, Option.getD_some]
  exact h _ (List.getElem_mem ha)
theorem rows_get {im : List (List Nat)} {a : Nat} (ha : a < im.length) (h2 : a < (im.map natI).length) : (im.map natI)[a]'h2 = natI (im.getD a []) := by
  rw [List.getElem_map, List.getD_eq_getElem?_getD, List.getElem?_eq_getElem ha, Option.getD_some]
/-- What a letter map that is valid is made of. -/
theorem map_ok {ms ds : List Nat} {rs : List (List Int)} (h : mapOk ms.length ds.length rs = true) : ∃ im : List (List Nat), rs.map (·.map Int.toNat) = im ∧ rs = im.map natI ∧ im.length = ms.length ∧ Wds ds im := by
  unfold mapOk at h
  rw [Bool.and_eq_true, decide_eq_true_eq] at h
  obtain ⟨im, h1, h2, h3⟩ := rows_nat h.2
  refine ⟨im, h1, h2, ?_, fun w hw => ⟨(h3 w hw).1, word_wd (h3 w hw).2⟩⟩
  have := h.1
  rw [h2, List.length_map] at this
  omega
/-- The code of alphabets, a letter map, and more that has to be in range. -/
def morphC (n : Int) (ds : List Int) (m : Int) (es : List Int) (rs : List (List Int)) (ok : Bool) : Int :=
  if alphaOk n ds && alphaOk m es then (if mapOk n m rs && ok then (if respN (ds.map Int.toNat) (es.map Int.toNat) (rs.map (·.map Int.toNat)) then 0 else 5) else 2) else 1
theorem morphC_1 {n : Int} {ds : List Int} {m : Int} {es : List Int} {rs : List (List Int)} {ok : Bool} (h : (alphaOk n ds && alphaOk m es) = false) : morphC n ds m es rs ok = 1 := by
  unfold morphC
  rw [if_neg (by rw [h]; simp)]
theorem morphC_2 {n : Int} {ds : List Int} {m : Int} {es : List Int} {rs : List (List Int)} {ok : Bool} (h1 : alphaOk n ds = true) (h2 : alphaOk m es = true) (h : (mapOk n m rs && ok) = false) : morphC n ds m es rs ok = 2 := by
  unfold morphC
  rw [if_pos (by rw [h1, h2]; rfl), if_neg (by rw [h]; simp)]
theorem morphC_3 {n : Int} {ds : List Int} {m : Int} {es : List Int} {rs : List (List Int)} {ok : Bool} {ms ks : List Nat} {im : List (List Nat)} (h1 : alphaOk n ds = true) (h2 : alphaOk m es = true) (h : (mapOk n m rs && ok) = true)
    (e1 : ds.map Int.toNat = ms) (e2 : es.map Int.toNat = ks) (e3 : rs.map (·.map Int.toNat) = im) : morphC n ds m es rs ok = if respN ms ks im then 0 else 5 := by
  unfold morphC
  rw [if_pos (by rw [h1, h2]; rfl), if_pos h, e1, e2, e3]
set_option maxHeartbeats 4000000 in
set_option maxRecDepth 100000 in
theorem goodIm1_ret (n : Int) (ds w : List Int) (hx : w.length < 2 ^ 62) (h0 : 0 ≤ n) (hn : n < 2 ^ 62) : Ret Tryd.prog G0 136 [⟨.ro, .one (ints w)⟩, ⟨.ro, .one (.ptr [i64 n, ints ds])⟩] ⟨.one (.c (.bool (!wordN n w))), []⟩ := by
  (refine ret_of_den (E := en 8 [] (fun _ => []) (fun _ => [])) tt_ok mixed Tryd.func136 rfl rfl rfl rfl ?_; refine ⟨by simp, ?_⟩)
  repeat' (first | ((first | refine opt_some (getC_rows rfl rfl (by omega)) ?_ | refine opt_some (by dsimp only; exact getC_lent rfl rfl (by omega)) ?_ | refine opt_some rfl ?_ | refine ⟨_, (by simp only [nf, nl, nm, en, ints, setC_setC, Nat.reduceAdd, Nat.reduceMul]; exact rfl), ?_⟩ | refine ⟨_, pickT rfl, ?_⟩ | refine ⟨_, rfl, ?_⟩ | refine iteP_true rfl ?_ | refine iteP_false rfl ?_ | refine iteP_true ‹_› ?_ | refine iteP_false ‹_› ?_ | refine andK ?_ | refine andA ?_ | refine andT ?_); conv => whnf) | (refine iteP_intro (fun hb => ?_) (fun hb => ?_) <;> (conv => whnf)))
  (refine ⟨_, isWord_ret n ds w hx h0 hn, ?_⟩; conv => whnf)
  repeat' (first | ((first | refine opt_some (getC_rows rfl rfl (by omega)) ?_ | refine opt_some (by dsimp only; exact getC_lent rfl rfl (by omega)) ?_ | refine opt_some rfl ?_ | refine ⟨_, (by simp only [nf, nl, nm, en, ints, setC_setC, Nat.reduceAdd, Nat.reduceMul]; exact rfl), ?_⟩ | refine ⟨_, pickT rfl, ?_⟩ | refine ⟨_, rfl, ?_⟩ | refine iteP_true rfl ?_ | refine iteP_false rfl ?_ | refine iteP_true ‹_› ?_ | refine iteP_false ‹_› ?_ | refine andK ?_ | refine andA ?_ | refine andT ?_); conv => whnf) | (refine iteP_intro (fun hb => ?_) (fun hb => ?_) <;> (conv => whnf)))
  rfl
set_option maxHeartbeats 4000000 in
set_option maxRecDepth 100000 in
theorem lengthSS_ret (rs : List (List Int)) : Ret Tryd.prog G0 135 [⟨.ro, .one (rowsI rs)⟩] ⟨.one (i64 rs.length), []⟩ := by
  unfold rowsI
  (refine ret_of_den (E := en 5 [] (fun _ => []) (fun _ => [])) tt_ok mixed Tryd.func135 rfl rfl rfl rfl ?_; refine ⟨by simp, ?_⟩)
  repeat' (first | ((first | refine opt_some (getC_rows rfl rfl (by omega)) ?_ | refine opt_some (by dsimp only; exact getC_lent rfl rfl (by omega)) ?_ | refine opt_some rfl ?_ | refine ⟨_, (by simp only [nf, nl, nm, en, ints, setC_setC, Nat.reduceAdd, Nat.reduceMul]; exact rfl), ?_⟩ | refine ⟨_, pickT rfl, ?_⟩ | refine ⟨_, rfl, ?_⟩ | refine iteP_true rfl ?_ | refine iteP_false rfl ?_ | refine iteP_true ‹_› ?_ | refine iteP_false ‹_› ?_ | refine andK ?_ | refine andA ?_ | refine andT ?_); conv => whnf) | (refine iteP_intro (fun hb => ?_) (fun hb => ?_) <;> (conv => whnf)))
  rfl
set_option maxHeartbeats 4000000 in
set_option maxRecDepth 100000 in
theorem goodIm_ret (n m : Int) (ds es : List Int) (rs : List (List Int)) (h0 : 0 ≤ m) (hm : m < 2 ^ 62) (hw : rs.length < 2 ^ 62) (hx : ∀ r ∈ rs, r.length < 2 ^ 62) : Ret Tryd.prog G0 72 [⟨.ro, .agg [i64 n, ints ds]⟩, ⟨.ro, .agg [i64 m, ints es]⟩, ⟨.ro, .one (rowsI rs)⟩] ⟨.one (.c (.bool (mapOk n m rs))), []⟩ := by
  have hl := lengthSS_ret rs
  have hc := containsFM_ret [i64 m, ints es] (fun w => !wordN m w) rs hw (fun w hw => goodIm1_ret m es w (hx w hw) h0 hm)
  unfold rowsI at hl hc ⊢
  unfold mapOk
  rw [List.all_eq_not_any_not]
  (refine ret_of_den (E := en 18 [] (fun _ => []) (fun _ => [])) tt_ok mixed Tryd.func72 rfl rfl rfl rfl ?_; refine ⟨by simp, ?_⟩)
  repeat' (first | ((first | refine opt_some (getC_rows rfl rfl (by omega)) ?_ | refine opt_some (by dsimp only; exact getC_lent rfl rfl (by omega)) ?_ | refine opt_some rfl ?_ | refine ⟨_, (by simp only [nf, nl, nm, en, ints, setC_setC, Nat.reduceAdd, Nat.reduceMul]; exact rfl), ?_⟩ | refine ⟨_, pickT rfl, ?_⟩ | refine ⟨_, rfl, ?_⟩ | refine iteP_true rfl ?_ | refine iteP_false rfl ?_ | refine iteP_true ‹_› ?_ | refine iteP_false ‹_› ?_ | refine andK ?_ | refine andA ?_ | refine andT ?_); conv => whnf) | (refine iteP_intro (fun hb => ?_) (fun hb => ?_) <;> (conv => whnf)))
  (refine ⟨_, hl, ?_⟩; conv => whnf)
  repeat' (first | ((first | refine opt_some (getC_rows rfl rfl (by omega)) ?_ | refine opt_some (by dsimp only; exact getC_lent rfl rfl (by omega)) ?_ | refine opt_some rfl ?_ | refine ⟨_, (by simp only [nf, nl, nm, en, ints, setC_setC, Nat.reduceAdd, Nat.reduceMul]; exact rfl), ?_⟩ | refine ⟨_, pickT rfl, ?_⟩ | refine ⟨_, rfl, ?_⟩ | refine iteP_true rfl ?_ | refine iteP_false rfl ?_ | refine iteP_true ‹_› ?_ | refine iteP_false ‹_› ?_ | refine andK ?_ | refine andA ?_ | refine andT ?_); conv => whnf) | (refine iteP_intro (fun hb => ?_) (fun hb => ?_) <;> (conv => whnf)))
  · (refine ⟨_, hc, ?_⟩; conv => whnf)
    repeat' (first | ((first | refine opt_some (getC_rows rfl rfl (by omega)) ?_ | refine opt_some (by dsimp only; exact getC_lent rfl rfl (by omega)) ?_ | refine opt_some rfl ?_ | refine ⟨_, (by simp only [nf, nl, nm, en, ints, setC_setC, Nat.reduceAdd, Nat.reduceMul]; exact rfl), ?_⟩ | refine ⟨_, pickT rfl, ?_⟩ | refine ⟨_, rfl, ?_⟩ | refine iteP_true rfl ?_ | refine iteP_false rfl ?_ | refine iteP_true ‹_› ?_ | refine iteP_false ‹_› ?_ | refine andK ?_ | refine andA ?_ | refine andT ?_); conv => whnf) | (refine iteP_intro (fun hb => ?_) (fun hb => ?_) <;> (conv => whnf)))
    refine endB ?_
    rw [decide_eq_true (eqT hb), Bool.true_and]
  · refine endB ?_
    rw [decide_eq_false (eqF hb), Bool.false_and]
set_option maxHeartbeats 4000000 in
set_option maxRecDepth 100000 in
theorem l08Map_ret (n m : Int) (ds es : List Int) (rs : List (List Int)) (h0 : 0 ≤ m) (hm : m < 2 ^ 62) (hw : rs.length < 2 ^ 62) (hx : ∀ r ∈ rs, r.length < 2 ^ 62) : Ret Tryd.prog G0 76 [⟨.ro, .agg [i64 n, ints ds]⟩, ⟨.ro, .agg [i64 m, ints es]⟩, ⟨.ro, .one (rowsI rs)⟩] ⟨.one (.c (.bool (mapOk n m rs))), []⟩ := by
  unfold rowsI
  (refine ret_of_den (E := en 27 [] (fun _ => [(3, 0), (4, 0), (7, 0), (2, 1)]) (fun _ => [])) tt_ok mixed Tryd.func76 rfl rfl rfl rfl ?_; refine ⟨by simp, ?_⟩)
  repeat' (first | ((first | refine opt_some (getC_rows rfl rfl (by omega)) ?_ | refine opt_some (by dsimp only; exact getC_lent rfl rfl (by omega)) ?_ | refine opt_some rfl ?_ | refine ⟨_, (by simp only [nf, nl, nm, en, ints, setC_setC, Nat.reduceAdd, Nat.reduceMul]; exact rfl), ?_⟩ | refine ⟨_, pickT rfl, ?_⟩ | refine ⟨_, rfl, ?_⟩ | refine iteP_true rfl ?_ | refine iteP_false rfl ?_ | refine iteP_true ‹_› ?_ | refine iteP_false ‹_› ?_ | refine andK ?_ | refine andA ?_ | refine andT ?_); conv => whnf) | (refine iteP_intro (fun hb => ?_) (fun hb => ?_) <;> (conv => whnf)))
  · refine endB ?_
    unfold mapOk
    rw [decide_eq_false (neT hb), Bool.false_and]
  have hn := neF hb
  refine ⟨fun k vs => ∃ i : Nat, i ≤ rs.length ∧ (∀ r ∈ rs.take i, wordN m r = true) ∧ vs = [.one (.ptr [i64 n, .shd (ints ds)]), .one (.ptr [i64 m, .shd (ints es)]), .one (i64 i), .one (.shd (.sl false 1 rs.length (rs.map ints)))] ∧ k = rs.length - i, rfl, ⟨_, 0, by omega, by simp, rfl, rfl⟩, ?_⟩
  rintro k vs ⟨i, hi, hs, rfl, rfl⟩
  repeat (first | ((first | refine opt_some (getC_rows rfl rfl (by omega)) ?_ | refine opt_some (by dsimp only; exact getC_lent rfl rfl (by omega)) ?_ | refine opt_some rfl ?_ | refine ⟨_, (by simp only [nf, nl, nm, en, ints, setC_setC, Nat.reduceAdd, Nat.reduceMul]; exact rfl), ?_⟩ | refine ⟨_, pickT rfl, ?_⟩ | refine ⟨_, rfl, ?_⟩ | refine iteP_true rfl ?_ | refine iteP_false rfl ?_ | refine iteP_true ‹_› ?_ | refine iteP_false ‹_› ?_ | refine andK ?_ | refine andA ?_ | refine andT ?_); conv => whnf))
  refine iteP_intro (fun hb => ?_) (fun hb => ?_) <;> (conv => whnf)
  · have hi' := ltT hb
    repeat (first | ((first | refine opt_some (getC_rows rfl rfl (by omega)) ?_ | refine opt_some (by dsimp only; exact getC_lent rfl rfl (by omega)) ?_ | refine opt_some rfl ?_ | refine ⟨_, (by simp only [nf, nl, nm, en, ints, setC_setC, Nat.reduceAdd, Nat.reduceMul]; exact rfl), ?_⟩ | refine ⟨_, pickT rfl, ?_⟩ | refine ⟨_, rfl, ?_⟩ | refine iteP_true rfl ?_ | refine iteP_false rfl ?_ | refine iteP_true ‹_› ?_ | refine iteP_false ‹_› ?_ | refine andK ?_ | refine andA ?_ | refine andT ?_); conv => whnf))
    (refine ⟨_, l03Word_ret m rs[i] (hx _ (List.getElem_mem hi')) h0 hm, ?_⟩; conv => whnf)
    repeat' (first | ((first | refine opt_some (getC_rows rfl rfl (by omega)) ?_ | refine opt_some (by dsimp only; exact getC_lent rfl rfl (by omega)) ?_ | refine opt_some rfl ?_ | refine ⟨_, (by simp only [nf, nl, nm, en, ints, setC_setC, Nat.reduceAdd, Nat.reduceMul]; exact rfl), ?_⟩ | refine ⟨_, pickT rfl, ?_⟩ | refine ⟨_, rfl, ?_⟩ | refine iteP_true rfl ?_ | refine iteP_false rfl ?_ | refine iteP_true ‹_› ?_ | refine iteP_false ‹_› ?_ | refine andK ?_ | refine andA ?_ | refine andT ?_); conv => whnf) | (refine iteP_intro (fun hb => ?_) (fun hb => ?_) <;> (conv => whnf)))
    · refine endB ?_
      unfold mapOk
      rw [show (rs.all fun w => wordN m w) = false from List.all_eq_false.2 ⟨rs[i], List.getElem_mem _, by simpa using hb⟩, Bool.and_false]
    · refine ⟨_, ?_, i + 1, hi', fun r hd => ?_, by rw [wrap_succ (by omega)]; rfl, rfl⟩
      · omega
      · rw [List.take_succ_eq_append_getElem hi'] at hd
        rcases List.mem_append.1 hd with h | h
        · exact hs r h
        · obtain rfl := List.mem_singleton.1 h
          simpa using hb
  · repeat' (first | ((first | refine opt_some (getC_rows rfl rfl (by omega)) ?_ | refine opt_some (by dsimp only; exact getC_lent rfl rfl (by omega)) ?_ | refine opt_some rfl ?_ | refine ⟨_, (by simp only [nf, nl, nm, en, ints, setC_setC, Nat.reduceAdd, Nat.reduceMul]; exact rfl), ?_⟩ | refine ⟨_, pickT rfl, ?_⟩ | refine ⟨_, rfl, ?_⟩ | refine iteP_true rfl ?_ | refine iteP_false rfl ?_ | refine iteP_true ‹_› ?_ | refine iteP_false ‹_› ?_ | refine andK ?_ | refine andA ?_ | refine andT ?_); conv => whnf) | (refine iteP_intro (fun hb => ?_) (fun hb => ?_) <;> (conv => whnf)))
    obtain rfl : i = rs.length := Nat.le_antisymm hi (ltF hb)
    rw [List.take_length] at hs
    refine endB ?_
    unfold mapOk
    rw [decide_eq_true hn, List.all_eq_true.2 hs]
    rfl
set_option maxHeartbeats 4000000 in
set_option maxRecDepth 100000 in
theorem respects_ret (ms ds : List Nat) (im : List (List Nat)) (hA : Alpha ms) (hl : ms.length ≤ 8) (hB : Alpha ds) (hk : ds.length ≤ 8) (hi : im.length = ms.length) (hw : Wds ds im) : Ret Tryd.prog G0 73 [⟨.ro, .agg [i64 ms.length, ints (natI ms)]⟩, ⟨.ro, .agg [i64 ds.length, ints (natI ds)]⟩, ⟨.ro, .one (rowsI (im.map natI))⟩] ⟨.one (.c (.bool (respN ms ds im))), []⟩ := by
  have hil : (im.map natI).length = im.length := List.length_map _
  unfold rowsI
  (refine ret_of_den (E := en 39 [] (fun | 2 => [(3, 0), (4, 0), (10, 0), (11, 0), (2, 1)] | 5 => [(3, 0), (4, 0), (7, 0), (10, 0), (11, 0), (14, 0), (15, 0), (2, 1)] | _ => []) (fun _ => [])) tt_ok mixed Tryd.func73 rfl rfl rfl rfl ?_; refine ⟨by simp, ?_⟩)
  repeat (first | ((first | refine opt_some (getC_rows rfl rfl (by omega)) ?_ | refine opt_some (by dsimp only; exact getC_lent rfl rfl (by omega)) ?_ | refine opt_some rfl ?_ | refine ⟨_, (by simp only [nf, nl, nm, en, ints, setC_setC, Nat.reduceAdd, Nat.reduceMul]; exact rfl), ?_⟩ | refine ⟨_, pickT rfl, ?_⟩ | refine ⟨_, rfl, ?_⟩ | refine iteP_true rfl ?_ | refine iteP_false rfl ?_ | refine iteP_true ‹_› ?_ | refine iteP_false ‹_› ?_ | refine andK ?_ | refine andA ?_ | refine andT ?_); conv => whnf))
  refine ⟨fun k vs => ∃ a : Nat, a ≤ ms.length ∧ (∀ a' < a, ∀ b < a', (dep ms a' b || comN ds (im.getD a' []) (im.getD b [])) = true) ∧ vs = [.one (.ptr [i64 ms.length, .shd (ints (natI ms))]), .one (.ptr [i64 ds.length, .shd (ints (natI ds))]), .one (i64 ms.length), .one (i64 a), .one (.shd (.sl false 1 (im.map natI).length ((im.map natI).map ints)))] ∧ k = ms.length - a, rfl, ⟨_, 0, by omega, by simp, rfl, rfl⟩, ?_⟩
  rintro k vs ⟨a, ha, hs, rfl, rfl⟩
  repeat (first | ((first | refine opt_some (getC_rows rfl rfl (by omega)) ?_ | refine opt_some (by dsimp only; exact getC_lent rfl rfl (by omega)) ?_ | refine opt_some rfl ?_ | refine ⟨_, (by simp only [nf, nl, nm, en, ints, setC_setC, Nat.reduceAdd, Nat.reduceMul]; exact rfl), ?_⟩ | refine ⟨_, pickT rfl, ?_⟩ | refine ⟨_, rfl, ?_⟩ | refine iteP_true rfl ?_ | refine iteP_false rfl ?_ | refine iteP_true ‹_› ?_ | refine iteP_false ‹_› ?_ | refine andK ?_ | refine andA ?_ | refine andT ?_); conv => whnf))
  refine iteP_intro (fun hb => ?_) (fun hb => ?_) <;> (conv => whnf)
  · have ha' : a < ms.length := by have := leT hb; omega
    repeat (first | ((first | refine opt_some (getC_rows rfl rfl (by omega)) ?_ | refine opt_some (by dsimp only; exact getC_lent rfl rfl (by omega)) ?_ | refine opt_some rfl ?_ | refine ⟨_, (by simp only [nf, nl, nm, en, ints, setC_setC, Nat.reduceAdd, Nat.reduceMul]; exact rfl), ?_⟩ | refine ⟨_, pickT rfl, ?_⟩ | refine ⟨_, rfl, ?_⟩ | refine iteP_true rfl ?_ | refine iteP_false rfl ?_ | refine iteP_true ‹_› ?_ | refine iteP_false ‹_› ?_ | refine andK ?_ | refine andA ?_ | refine andT ?_); conv => whnf))
    refine ⟨fun k vs => ∃ b : Nat, b ≤ a ∧ (∀ b' < b, (dep ms a b' || comN ds (im.getD a []) (im.getD b' [])) = true) ∧ vs = [.one (.ptr [i64 ms.length, .shd (ints (natI ms))]), .one (.ptr [i64 ds.length, .shd (ints (natI ds))]), .one (i64 a), .one (i64 ms.length), .one (i64 a), .one (i64 a), .one (i64 b), .one (.shd (.sl false 1 (im.map natI).length ((im.map natI).map ints)))] ∧ k = a - b, rfl, ⟨_, 0, by omega, by simp, rfl, rfl⟩, ?_⟩
    rintro k vs ⟨b, hb1, ht, rfl, rfl⟩
    repeat (first | ((first | refine opt_some (getC_rows rfl rfl (by omega)) ?_ | refine opt_some (by dsimp only; exact getC_lent rfl rfl (by omega)) ?_ | refine opt_some rfl ?_ | refine ⟨_, (by simp only [nf, nl, nm, en, ints, setC_setC, Nat.reduceAdd, Nat.reduceMul]; exact rfl), ?_⟩ | refine ⟨_, pickT rfl, ?_⟩ | refine ⟨_, rfl, ?_⟩ | refine iteP_true rfl ?_ | refine iteP_false rfl ?_ | refine iteP_true ‹_› ?_ | refine iteP_false ‹_› ?_ | refine andK ?_ | refine andA ?_ | refine andT ?_); conv => whnf))
    refine iteP_intro (fun hb => ?_) (fun hb => ?_) <;> (conv => whnf)
    · have hb' : b < a := by have := leT hb; omega
      have hga := rows_get (im := im) (a := a) (by omega) (by omega)
      have hgb := rows_get (im := im) (a := b) (by omega) (by omega)
      obtain ⟨ha1, ha2⟩ := hw.get (a := a) (by omega)
      obtain ⟨hb1, hb2⟩ := hw.get (a := b) (by omega)
      have hti := ties_ret ds.length (natI ds)
      have hcm := commute_ret ds (im.getD a []) (im.getD b []) hB (by omega) ha2 hb2 (by omega) (by omega)
      have hbad := respN_bad (ds := ds) (im := im) hA ha' (show b < ms.length by omega)
      have hdd : (ms.getD a 0).testBit b = dep ms a b := rfl
      repeat (first | ((first | refine opt_some (getC_rows rfl rfl (by omega)) ?_ | refine opt_some (by dsimp only; exact getC_lent rfl rfl (by omega)) ?_ | refine opt_some rfl ?_ | refine ⟨_, (by simp only [nf, nl, nm, en, ints, setC_setC, Nat.reduceAdd, Nat.reduceMul]; exact rfl), ?_⟩ | refine ⟨_, pickT rfl, ?_⟩ | refine ⟨_, rfl, ?_⟩ | refine iteP_true rfl ?_ | refine iteP_false rfl ?_ | refine iteP_true ‹_› ?_ | refine iteP_false ‹_› ?_ | refine andK ?_ | refine andA ?_ | refine andT ?_); conv => whnf))
      (refine ⟨_, depend_ret _ ms a b (by omega) (by omega) (by omega) hA.lt, ?_⟩; conv => whnf)
      rw [hdd]
      cases hda : dep ms a b with
      | true =>
        repeat (first | ((first | refine opt_some (getC_rows rfl rfl (by omega)) ?_ | refine opt_some (by dsimp only; exact getC_lent rfl rfl (by omega)) ?_ | refine opt_some rfl ?_ | refine ⟨_, (by simp only [nf, nl, nm, en, ints, setC_setC, Nat.reduceAdd, Nat.reduceMul]; exact rfl), ?_⟩ | refine ⟨_, pickT rfl, ?_⟩ | refine ⟨_, rfl, ?_⟩ | refine iteP_true rfl ?_ | refine iteP_false rfl ?_ | refine iteP_true ‹_› ?_ | refine iteP_false ‹_› ?_ | refine andK ?_ | refine andA ?_ | refine andT ?_); conv => whnf))
        refine ⟨_, ?_, b + 1, hb', fun b' hb'' => ?_, ?_, rfl⟩
        · omega
        · rcases Nat.lt_succ_iff_lt_or_eq.1 hb'' with h | rfl
          · exact ht b' h
          · rw [hda, Bool.true_or]
        · rw [wrap_succ (by omega)]
          rfl
      | false =>
        repeat (first | ((first | refine opt_some (getC_rows rfl rfl (by omega)) ?_ | refine opt_some (by dsimp only; exact getC_lent rfl rfl (by omega)) ?_ | refine opt_some rfl ?_ | refine ⟨_, (by simp only [nf, nl, nm, en, ints, setC_setC, Nat.reduceAdd, Nat.reduceMul]; exact rfl), ?_⟩ | refine ⟨_, pickT rfl, ?_⟩ | refine ⟨_, rfl, ?_⟩ | refine iteP_true rfl ?_ | refine iteP_false rfl ?_ | refine iteP_true ‹_› ?_ | refine iteP_false ‹_› ?_ | refine andK ?_ | refine andA ?_ | refine andT ?_); conv => whnf))
        (refine ⟨_, hti, ?_⟩; conv => whnf)
        repeat (first | ((first | refine opt_some (getC_rows rfl rfl (by omega)) ?_ | refine opt_some (by dsimp only; exact getC_lent rfl rfl (by omega)) ?_ | refine opt_some rfl ?_ | refine ⟨_, (by simp only [nf, nl, nm, en, ints, setC_setC, Nat.reduceAdd, Nat.reduceMul, hga, hgb]; exact rfl), ?_⟩ | refine ⟨_, pickT rfl, ?_⟩ | refine ⟨_, rfl, ?_⟩ | refine iteP_true rfl ?_ | refine iteP_false rfl ?_ | refine iteP_true ‹_› ?_ | refine iteP_false ‹_› ?_ | refine andK ?_ | refine andA ?_ | refine andT ?_); conv => whnf))
        (refine ⟨_, hcm, ?_⟩; conv => whnf)
        cases hcc : comN ds (im.getD a []) (im.getD b []) with
        | true =>
          repeat (first | ((first | refine opt_some (getC_rows rfl rfl (by omega)) ?_ | refine opt_some (by dsimp only; exact getC_lent rfl rfl (by omega)) ?_ | refine opt_some rfl ?_ | refine ⟨_, (by simp only [nf, nl, nm, en, ints, setC_setC, Nat.reduceAdd, Nat.reduceMul]; exact rfl), ?_⟩ | refine ⟨_, pickT rfl, ?_⟩ | refine ⟨_, rfl, ?_⟩ | refine iteP_true rfl ?_ | refine iteP_false rfl ?_ | refine iteP_true ‹_› ?_ | refine iteP_false ‹_› ?_ | refine andK ?_ | refine andA ?_ | refine andT ?_); conv => whnf))
          refine ⟨_, ?_, b + 1, hb', fun b' hb'' => ?_, ?_, rfl⟩
          · omega
          · rcases Nat.lt_succ_iff_lt_or_eq.1 hb'' with h | rfl
            · exact ht b' h
            · rw [hcc, Bool.or_true]
          · rw [wrap_succ (by omega)]
            rfl
        | false =>
          repeat' (first | ((first | refine opt_some (getC_rows rfl rfl (by omega)) ?_ | refine opt_some (by dsimp only; exact getC_lent rfl rfl (by omega)) ?_ | refine opt_some rfl ?_ | refine ⟨_, (by simp only [nf, nl, nm, en, ints, setC_setC, Nat.reduceAdd, Nat.reduceMul]; exact rfl), ?_⟩ | refine ⟨_, pickT rfl, ?_⟩ | refine ⟨_, rfl, ?_⟩ | refine iteP_true rfl ?_ | refine iteP_false rfl ?_ | refine iteP_true ‹_› ?_ | refine iteP_false ‹_› ?_ | refine andK ?_ | refine andA ?_ | refine andT ?_); conv => whnf) | (refine iteP_intro (fun hb => ?_) (fun hb => ?_) <;> (conv => whnf)))
          refine endB ?_
          rw [hbad hda hcc]
    · obtain rfl : b = a := by have := leF hb; omega
      repeat (first | ((first | refine opt_some (getC_rows rfl rfl (by omega)) ?_ | refine opt_some (by dsimp only; exact getC_lent rfl rfl (by omega)) ?_ | refine opt_some rfl ?_ | refine ⟨_, (by simp only [nf, nl, nm, en, ints, setC_setC, Nat.reduceAdd, Nat.reduceMul]; exact rfl), ?_⟩ | refine ⟨_, pickT rfl, ?_⟩ | refine ⟨_, rfl, ?_⟩ | refine iteP_true rfl ?_ | refine iteP_false rfl ?_ | refine iteP_true ‹_› ?_ | refine iteP_false ‹_› ?_ | refine andK ?_ | refine andA ?_ | refine andT ?_); conv => whnf))
      refine ⟨_, ?_, b + 1, ha', fun a' ha'' => ?_, ?_, rfl⟩
      · omega
      · rcases Nat.lt_succ_iff_lt_or_eq.1 ha'' with h | rfl
        · exact hs a' h
        · exact ht
      · rw [wrap_succ (by omega)]
        rfl
  · obtain rfl : a = ms.length := by have := leF hb; omega
    repeat' (first | ((first | refine opt_some (getC_rows rfl rfl (by omega)) ?_ | refine opt_some (by dsimp only; exact getC_lent rfl rfl (by omega)) ?_ | refine opt_some rfl ?_ | refine ⟨_, (by simp only [nf, nl, nm, en, ints, setC_setC, Nat.reduceAdd, Nat.reduceMul]; exact rfl), ?_⟩ | refine ⟨_, pickT rfl, ?_⟩ | refine ⟨_, rfl, ?_⟩ | refine iteP_true rfl ?_ | refine iteP_false rfl ?_ | refine iteP_true ‹_› ?_ | refine iteP_false ‹_› ?_ | refine andK ?_ | refine andA ?_ | refine andT ?_); conv => whnf) | (refine iteP_intro (fun hb => ?_) (fun hb => ?_) <;> (conv => whnf)))
    refine endB ?_
    rw [respN_of hs]
set_option maxHeartbeats 4000000 in
set_option maxRecDepth 100000 in
theorem l08Morphism_ret (ms ds : List Nat) (im : List (List Nat)) (hA : Alpha ms) (hl : ms.length ≤ 8) (hB : Alpha ds) (hk : ds.length ≤ 8) (hi : im.length = ms.length) (hw : Wds ds im) : Ret Tryd.prog G0 77 [⟨.ro, .agg [i64 ms.length, ints (natI ms)]⟩, ⟨.ro, .agg [i64 ds.length, ints (natI ds)]⟩, ⟨.ro, .one (rowsI (im.map natI))⟩] ⟨.one (.c (.bool (respN ms ds im))), []⟩ := by
  have hil : (im.map natI).length = im.length := List.length_map _
  unfold rowsI
  (refine ret_of_den (E := en 51 [] (fun | 2 => [(3, 0), (4, 0), (7, 0), (2, 1)] | 5 => [(3, 0), (4, 0), (7, 0), (8, 0), (2, 1)] | _ => []) (fun _ => [])) tt_ok mixed Tryd.func77 rfl rfl rfl rfl ?_; refine ⟨by simp, ?_⟩)
  repeat (first | ((first | refine opt_some (getC_rows rfl rfl (by omega)) ?_ | refine opt_some (by dsimp only; exact getC_lent rfl rfl (by omega)) ?_ | refine opt_some rfl ?_ | refine ⟨_, (by simp only [nf, nl, nm, en, ints, setC_setC, Nat.reduceAdd, Nat.reduceMul]; exact rfl), ?_⟩ | refine ⟨_, pickT rfl, ?_⟩ | refine ⟨_, rfl, ?_⟩ | refine iteP_true rfl ?_ | refine iteP_false rfl ?_ | refine iteP_true ‹_› ?_ | refine iteP_false ‹_› ?_ | refine andK ?_ | refine andA ?_ | refine andT ?_); conv => whnf))
  refine ⟨fun k vs => ∃ a : Nat, a ≤ ms.length ∧ (∀ a' < a, ∀ b < ms.length, (dep ms a' b || comN ds (im.getD a' []) (im.getD b [])) = true) ∧ vs = [.one (.ptr [i64 ms.length, .shd (ints (natI ms))]), .one (.ptr [i64 ds.length, .shd (ints (natI ds))]), .one (i64 a), .one (.shd (.sl false 1 (im.map natI).length ((im.map natI).map ints)))] ∧ k = ms.length - a, rfl, ⟨_, 0, by omega, by simp, rfl, rfl⟩, ?_⟩
  rintro k vs ⟨a, ha, hs, rfl, rfl⟩
  repeat (first | ((first | refine opt_some (getC_rows rfl rfl (by omega)) ?_ | refine opt_some (by dsimp only; exact getC_lent rfl rfl (by omega)) ?_ | refine opt_some rfl ?_ | refine ⟨_, (by simp only [nf, nl, nm, en, ints, setC_setC, Nat.reduceAdd, Nat.reduceMul]; exact rfl), ?_⟩ | refine ⟨_, pickT rfl, ?_⟩ | refine ⟨_, rfl, ?_⟩ | refine iteP_true rfl ?_ | refine iteP_false rfl ?_ | refine iteP_true ‹_› ?_ | refine iteP_false ‹_› ?_ | refine andK ?_ | refine andA ?_ | refine andT ?_); conv => whnf))
  refine iteP_intro (fun hb => ?_) (fun hb => ?_) <;> (conv => whnf)
  · have ha' : a < ms.length := by have := leT hb; omega
    repeat (first | ((first | refine opt_some (getC_rows rfl rfl (by omega)) ?_ | refine opt_some (by dsimp only; exact getC_lent rfl rfl (by omega)) ?_ | refine opt_some rfl ?_ | refine ⟨_, (by simp only [nf, nl, nm, en, ints, setC_setC, Nat.reduceAdd, Nat.reduceMul]; exact rfl), ?_⟩ | refine ⟨_, pickT rfl, ?_⟩ | refine ⟨_, rfl, ?_⟩ | refine iteP_true rfl ?_ | refine iteP_false rfl ?_ | refine iteP_true ‹_› ?_ | refine iteP_false ‹_› ?_ | refine andK ?_ | refine andA ?_ | refine andT ?_); conv => whnf))
    refine ⟨fun k vs => ∃ b : Nat, b ≤ ms.length ∧ (∀ b' < b, (dep ms a b' || comN ds (im.getD a []) (im.getD b' [])) = true) ∧ vs = [.one (.ptr [i64 ms.length, .shd (ints (natI ms))]), .one (.ptr [i64 ds.length, .shd (ints (natI ds))]), .one (i64 a), .one (i64 b), .one (.shd (.sl false 1 (im.map natI).length ((im.map natI).map ints)))] ∧ k = ms.length - b, rfl, ⟨_, 0, by omega, by simp, rfl, rfl⟩, ?_⟩
    rintro k vs ⟨b, hb1, ht, rfl, rfl⟩
    repeat (first | ((first | refine opt_some (getC_rows rfl rfl (by omega)) ?_ | refine opt_some (by dsimp only; exact getC_lent rfl rfl (by omega)) ?_ | refine opt_some rfl ?_ | refine ⟨_, (by simp only [nf, nl, nm, en, ints, setC_setC, Nat.reduceAdd, Nat.reduceMul]; exact rfl), ?_⟩ | refine ⟨_, pickT rfl, ?_⟩ | refine ⟨_, rfl, ?_⟩ | refine iteP_true rfl ?_ | refine iteP_false rfl ?_ | refine iteP_true ‹_› ?_ | refine iteP_false ‹_› ?_ | refine andK ?_ | refine andA ?_ | refine andT ?_); conv => whnf))
    refine iteP_intro (fun hb => ?_) (fun hb => ?_) <;> (conv => whnf)
    · have hb' : b < ms.length := by have := leT hb; omega
      have hga := rows_get (im := im) (a := a) (by omega) (by omega)
      have hgb := rows_get (im := im) (a := b) (by omega) (by omega)
      obtain ⟨ha1, ha2⟩ := hw.get (a := a) (by omega)
      obtain ⟨hb1, hb2⟩ := hw.get (a := b) (by omega)
      have hla := natI_length (im.getD a [])
      have hlb := natI_length (im.getD b [])
      have hoa := l01Own_ret (natI (im.getD a [])) (by omega)
      have hob := l01Own_ret (natI (im.getD b [])) (by omega)
      have hsm := l03Same_ret ds (im.getD a [] ++ im.getD b []) (im.getD b [] ++ im.getD a []) hB (by omega) (ha2.append hb2) (hb2.append ha2) (by rw [List.length_append]; omega) (by rw [List.length_append]; omega)
      rw [natI_append, natI_append, ints_append, ints_append] at hsm
      have hbad := respN_bad (ds := ds) (im := im) hA ha' hb'
      unfold comN at hbad ht
      have hdd : (ms.getD a 0).testBit b = dep ms a b := rfl
      repeat (first | ((first | refine opt_some (getC_rows rfl rfl (by omega)) ?_ | refine opt_some (by dsimp only; exact getC_lent rfl rfl (by omega)) ?_ | refine opt_some rfl ?_ | refine ⟨_, (by simp only [nf, nl, nm, en, ints, setC_setC, Nat.reduceAdd, Nat.reduceMul]; exact rfl), ?_⟩ | refine ⟨_, pickT rfl, ?_⟩ | refine ⟨_, rfl, ?_⟩ | refine iteP_true rfl ?_ | refine iteP_false rfl ?_ | refine iteP_true ‹_› ?_ | refine iteP_false ‹_› ?_ | refine andK ?_ | refine andA ?_ | refine andT ?_); conv => whnf))
      (refine ⟨_, l02Dep_ret _ ms a b (by omega) (by omega) (by omega) hA.lt, ?_⟩; conv => whnf)
      rw [hdd]
      cases hda : dep ms a b with
      | true =>
        repeat (first | ((first | refine opt_some (getC_rows rfl rfl (by omega)) ?_ | refine opt_some (by dsimp only; exact getC_lent rfl rfl (by omega)) ?_ | refine opt_some rfl ?_ | refine ⟨_, (by simp only [nf, nl, nm, en, ints, setC_setC, Nat.reduceAdd, Nat.reduceMul]; exact rfl), ?_⟩ | refine ⟨_, pickT rfl, ?_⟩ | refine ⟨_, rfl, ?_⟩ | refine iteP_true rfl ?_ | refine iteP_false rfl ?_ | refine iteP_true ‹_› ?_ | refine iteP_false ‹_› ?_ | refine andK ?_ | refine andA ?_ | refine andT ?_); conv => whnf))
        refine ⟨_, ?_, b + 1, hb', fun b' hb'' => ?_, ?_, rfl⟩
        · omega
        · rcases Nat.lt_succ_iff_lt_or_eq.1 hb'' with h | rfl
          · exact ht b' h
          · rw [hda, Bool.true_or]
        · rw [wrap_succ (by omega)]
          rfl
      | false =>
        repeat (first | ((first | refine opt_some (getC_rows rfl rfl (by omega)) ?_ | refine opt_some (by dsimp only; exact getC_lent rfl rfl (by omega)) ?_ | refine opt_some rfl ?_ | refine ⟨_, (by simp only [nf, nl, nm, en, ints, setC_setC, Nat.reduceAdd, Nat.reduceMul, hga, hgb]; exact rfl), ?_⟩ | refine ⟨_, pickT rfl, ?_⟩ | refine ⟨_, rfl, ?_⟩ | refine iteP_true rfl ?_ | refine iteP_false rfl ?_ | refine iteP_true ‹_› ?_ | refine iteP_false ‹_› ?_ | refine andK ?_ | refine andA ?_ | refine andT ?_); conv => whnf))
        (refine ⟨_, hoa, ?_⟩; conv => whnf)
        repeat (first | ((first | refine opt_some (getC_rows rfl rfl (by omega)) ?_ | refine opt_some (by dsimp only; exact getC_lent rfl rfl (by omega)) ?_ | refine opt_some rfl ?_ | refine ⟨_, (by simp only [nf, nl, nm, en, ints, setC_setC, Nat.reduceAdd, Nat.reduceMul, hga, hgb]; exact rfl), ?_⟩ | refine ⟨_, pickT rfl, ?_⟩ | refine ⟨_, rfl, ?_⟩ | refine iteP_true rfl ?_ | refine iteP_false rfl ?_ | refine iteP_true ‹_› ?_ | refine iteP_false ‹_› ?_ | refine andK ?_ | refine andA ?_ | refine andT ?_); conv => whnf))
        (refine ⟨_, hob, ?_⟩; conv => whnf)
        repeat (first | ((first | refine opt_some (getC_rows rfl rfl (by omega)) ?_ | refine opt_some (by dsimp only; exact getC_lent rfl rfl (by omega)) ?_ | refine opt_some rfl ?_ | refine ⟨_, (by simp only [nf, nl, nm, en, ints, setC_setC, Nat.reduceAdd, Nat.reduceMul, hga, hgb]; exact rfl), ?_⟩ | refine ⟨_, pickT rfl, ?_⟩ | refine ⟨_, rfl, ?_⟩ | refine iteP_true rfl ?_ | refine iteP_false rfl ?_ | refine iteP_true ‹_› ?_ | refine iteP_false ‹_› ?_ | refine andK ?_ | refine andA ?_ | refine andT ?_); conv => whnf))
        (refine ⟨_, hsm, ?_⟩; conv => whnf)
        cases hcc : sameN ds (im.getD a [] ++ im.getD b []) (im.getD b [] ++ im.getD a []) with
        | true =>
          repeat (first | ((first | refine opt_some (getC_rows rfl rfl (by omega)) ?_ | refine opt_some (by dsimp only; exact getC_lent rfl rfl (by omega)) ?_ | refine opt_some rfl ?_ | refine ⟨_, (by simp only [nf, nl, nm, en, ints, setC_setC, Nat.reduceAdd, Nat.reduceMul]; exact rfl), ?_⟩ | refine ⟨_, pickT rfl, ?_⟩ | refine ⟨_, rfl, ?_⟩ | refine iteP_true rfl ?_ | refine iteP_false rfl ?_ | refine iteP_true ‹_› ?_ | refine iteP_false ‹_› ?_ | refine andK ?_ | refine andA ?_ | refine andT ?_); conv => whnf))
          refine ⟨_, ?_, b + 1, hb', fun b' hb'' => ?_, ?_, rfl⟩
          · omega
          · rcases Nat.lt_succ_iff_lt_or_eq.1 hb'' with h | rfl
            · exact ht b' h
            · unfold comN
              rw [hcc, Bool.or_true]
          · rw [wrap_succ (by omega)]
            rfl
        | false =>
          repeat' (first | ((first | refine opt_some (getC_rows rfl rfl (by omega)) ?_ | refine opt_some (by dsimp only; exact getC_lent rfl rfl (by omega)) ?_ | refine opt_some rfl ?_ | refine ⟨_, (by simp only [nf, nl, nm, en, ints, setC_setC, Nat.reduceAdd, Nat.reduceMul]; exact rfl), ?_⟩ | refine ⟨_, pickT rfl, ?_⟩ | refine ⟨_, rfl, ?_⟩ | refine iteP_true rfl ?_ | refine iteP_false rfl ?_ | refine iteP_true ‹_› ?_ | refine iteP_false ‹_› ?_ | refine andK ?_ | refine andA ?_ | refine andT ?_); conv => whnf) | (refine iteP_intro (fun hb => ?_) (fun hb => ?_) <;> (conv => whnf)))
          refine endB ?_
          rw [hbad hda hcc]
    · obtain rfl : b = ms.length := by have := leF hb; omega
      repeat (first | ((first | refine opt_some (getC_rows rfl rfl (by omega)) ?_ | refine opt_some (by dsimp only; exact getC_lent rfl rfl (by omega)) ?_ | refine opt_some rfl ?_ | refine ⟨_, (by simp only [nf, nl, nm, en, ints, setC_setC, Nat.reduceAdd, Nat.reduceMul]; exact rfl), ?_⟩ | refine ⟨_, pickT rfl, ?_⟩ | refine ⟨_, rfl, ?_⟩ | refine iteP_true rfl ?_ | refine iteP_false rfl ?_ | refine iteP_true ‹_› ?_ | refine iteP_false ‹_› ?_ | refine andK ?_ | refine andA ?_ | refine andT ?_); conv => whnf))
      refine ⟨_, ?_, a + 1, ha', fun a' ha'' => ?_, ?_, rfl⟩
      · omega
      · rcases Nat.lt_succ_iff_lt_or_eq.1 ha'' with h | rfl
        · exact hs a' h
        · exact ht
      · rw [wrap_succ (by omega)]
        rfl
  · obtain rfl : a = ms.length := by have := leF hb; omega
    repeat' (first | ((first | refine opt_some (getC_rows rfl rfl (by omega)) ?_ | refine opt_some (by dsimp only; exact getC_lent rfl rfl (by omega)) ?_ | refine opt_some rfl ?_ | refine ⟨_, (by simp only [nf, nl, nm, en, ints, setC_setC, Nat.reduceAdd, Nat.reduceMul]; exact rfl), ?_⟩ | refine ⟨_, pickT rfl, ?_⟩ | refine ⟨_, rfl, ?_⟩ | refine iteP_true rfl ?_ | refine iteP_false rfl ?_ | refine iteP_true ‹_› ?_ | refine iteP_false ‹_› ?_ | refine andK ?_ | refine andA ?_ | refine andT ?_); conv => whnf) | (refine iteP_intro (fun hb => ?_) (fun hb => ?_) <;> (conv => whnf)))
    refine endB ?_
    rw [respN_of fun a ha b hb => hs a ha b (by omega)]
end Go.Proofs.YtpopepcmfanegaaDoor
