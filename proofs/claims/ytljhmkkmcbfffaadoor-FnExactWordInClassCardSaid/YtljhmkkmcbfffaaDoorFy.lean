import Derived.Test.YtljhmkkmcbfffaaDoorFx
set_option autoImplicit false
set_option linter.unusedSimpArgs false
set_option linter.unusedVariables false
namespace Go.Proofs.YtljhmkkmcbfffaaDoor
open Go.Den
/-- Which letter comes first in the word with rank r, and the rank of what follows it. -/
def pk (ms rest : List Nat) : List Nat → Nat → Option (Nat × Nat)
  | [], _ => none
  | a :: l, r => if r < trk ms rest a then some (a, r) else pk ms rest l (r - trk ms rest a)
theorem pk_t {ms rest l : List Nat} {a r : Nat} (h : r < trk ms rest a) : pk ms rest (a :: l) r = some (a, r) := by rw [pk, if_pos h]
theorem pk_f {ms rest l : List Nat} {a r : Nat} (h : ¬ r < trk ms rest a) : pk ms rest (a :: l) r = pk ms rest l (r - trk ms rest a) := by rw [pk, if_neg h]
theorem pk_filter (ms rest : List Nat) : ∀ (l : List Nat) (r : Nat), pk ms rest (l.filter fun a => canF ms a rest) r = pk ms rest l r
  | [], _ => rfl
  | a :: l, r => by
    cases h : canF ms a rest with
    | true =>
      rw [List.filter_cons_of_pos (by rw [h]), pk, pk, pk_filter ms rest l]
    | false =>
      rw [List.filter_cons_of_neg (by rw [h]; simp), pk, trk_f h, if_neg (by omega), Nat.sub_zero, pk_filter ms rest l]
theorem pk_some {ms rest : List Nat} : ∀ {l : List Nat} {r : Nat}, r < (l.map (trk ms rest)).sum → ∃ a q, pk ms rest l r = some (a, q) ∧ a ∈ l ∧ q < trk ms rest a
  | [], r, h => by simp at h
  | a :: l, r, h => by
    by_cases h1 : r < trk ms rest a
    · exact ⟨a, r, pk_t h1, by simp, h1⟩
    · rw [List.map_cons, List.sum_cons] at h
      obtain ⟨b, q, h2, h3, h4⟩ := pk_some (ms := ms) (rest := rest) (l := l) (r := r - trk ms rest a) (by omega)
      exact ⟨b, q, by rw [pk_f h1, h2], by simp [h3], h4⟩
theorem sum_range (f : Nat → Nat) : ∀ n, ((List.range n).map f).sum = sumN f n
  | 0 => rfl
  | n + 1 => by
    rw [List.range_succ, List.map_append, List.sum_append, sum_range f n]
    simp [sumN]
theorem pk_ok {ms rest : List Nat} {r : Nat} (hne : rest ≠ []) (h : r < clsW ms rest) : ∃ a q, pk ms rest (List.range ms.length) r = some (a, q) ∧ a < ms.length ∧ canF ms a rest = true ∧ q < clsW ms (rest.erase a) := by
  rw [clsW_trk hne, ← sum_range] at h
  obtain ⟨a, q, h1, h2, h3⟩ := pk_some h
  cases hc : canF ms a rest with
  | false => rw [trk_f hc] at h3; omega
  | true =>
    rw [trk_t hc] at h3
    exact ⟨a, q, h1, by simpa using h2, hc, h3⟩
/-- The word with rank r of a trace. -/
def wrdK (ms : List Nat) : Nat → List Nat → Nat → List Nat
  | 0, _, _ => []
  | k + 1, rest, r => match pk ms rest (List.range ms.length) r with
    | none => []
    | some (a, q) => a :: wrdK ms k (rest.erase a) q
def wrdN (ms rest : List Nat) (r : Nat) : List Nat := wrdK ms rest.length rest r
set_option maxHeartbeats 4000000 in
set_option maxRecDepth 100000 in
theorem wrdN_nil (ms : List Nat) (r : Nat) : wrdN ms [] r = [] := rfl
theorem wrdN_step {ms rest : List Nat} {r a q : Nat} (h : pk ms rest (List.range ms.length) r = some (a, q)) (hc : canF ms a rest = true) : wrdN ms rest r = a :: wrdN ms (rest.erase a) q := by
  have hl := erase_length (canF_mem hc)
  have hp := List.length_pos_of_mem (canF_mem hc)
  unfold wrdN
  rw [hl, show rest.length = rest.length - 1 + 1 by omega]
  simp only [wrdK, h]
  rfl
theorem wrdK_len (ms : List Nat) : ∀ k rest r, (wrdK ms k rest r).length ≤ k
  | 0, _, _ => by simp [wrdK]
  | k + 1, rest, r => by
    simp only [wrdK]
    split
    · simp
    · rename_i a q _
      have := wrdK_len ms k (rest.erase a) q
      simp only [List.length_cons]
      omega
/-- How far the word is built. -/
structure WiAt (ms w acc rest : List Nat) (r0 r : Nat) : Prop where
  wd : Wd ms rest
  le : acc.length + rest.length ≤ 24
  sf : ∃ u, Eqv ms w (u ++ rest)
  lt : r < clsW ms rest
  cap : clsW ms rest ≤ 1000000000000000
  eq : acc ++ wrdN ms rest r = wrdN ms w r0
theorem WiAt.start {ms w : List Nat} {r : Nat} (hw : Wd ms w) (hl : w.length ≤ 24) (hr : r < clsW ms w) (hc : clsW ms w ≤ 1000000000000000) : WiAt ms w [] w r r :=
  ⟨hw, by simpa using hl, ⟨[], .refl _ _⟩, hr, hc, rfl⟩
theorem cls_erase_le {ms rest : List Nat} {a : Nat} (hne : rest ≠ []) (ha : a < ms.length) (hc : canF ms a rest = true) : clsW ms (rest.erase a) ≤ clsW ms rest := by
  have h1 := (trk_le (ms := ms) (r := rest) ha (Nat.le_refl _) hne)
  rw [trk_t hc] at h1
  omega
theorem WiAt.step {ms w acc rest : List Nat} {r0 r a q : Nat} (hA : Alpha ms) (h : WiAt ms w acc rest r0 r) (hne : rest ≠ []) (ha : a < ms.length) (hp : pk ms rest (List.range ms.length) r = some (a, q)) (hc : canF ms a rest = true) (hq : q < clsW ms (rest.erase a)) :
    WiAt ms w (acc ++ [a]) (rest.erase a) r0 q ∧ (rest.erase a).length < rest.length := by
  have hl := erase_length (canF_mem hc)
  have hpos := List.length_pos_of_mem (canF_mem hc)
  have := h.le
  refine ⟨⟨h.wd.erase a, ?_, sfx_erase hA h.sf hc, hq, Nat.le_trans (cls_erase_le hne ha hc) h.cap, ?_⟩, by omega⟩
  · rw [List.length_append, List.length_singleton]; omega
  · rw [← h.eq, wrdN_step hp hc, List.append_assoc]
    rfl
theorem WiAt.stop {ms w acc rest : List Nat} {r0 r : Nat} (h : WiAt ms w acc rest r0 r) (h0 : rest.length = 0) : wrdN ms w r0 = acc := by
  rw [← h.eq, List.length_eq_zero_iff.1 h0, wrdN_nil, List.append_nil]
/-- What WordInClass answers. -/
def wicR (n : Int) (ds xs : List Int) (c : Int) : List Nat × Int :=
  if (clsR n ds xs).2 = 0 then (if 0 ≤ c ∧ c ≤ (clsR n ds xs).1 - 1 then (wrdN (ds.map Int.toNat) (xs.map Int.toNat) c.toNat, 0) else ([], 2)) else ([], (clsR n ds xs).2)
theorem wicR_bad {n : Int} {ds xs : List Int} {c : Int} (h : (clsR n ds xs).2 ≠ 0) : wicR n ds xs c = ([], (clsR n ds xs).2) := by
  unfold wicR
  rw [if_neg h]
theorem wicR_out {n : Int} {ds xs : List Int} {c : Int} (h : (clsR n ds xs).2 = 0) (hc : ¬ (0 ≤ c ∧ c ≤ (clsR n ds xs).1 - 1)) : wicR n ds xs c = ([], 2) := by
  unfold wicR
  rw [if_pos h, if_neg hc]
theorem wicR_ok {n : Int} {ds xs : List Int} {c : Int} {ms w : List Nat} {r : Nat} (h : (clsR n ds xs).2 = 0) (hc : 0 ≤ c ∧ c ≤ (clsR n ds xs).1 - 1) (e1 : ds.map Int.toNat = ms) (e2 : xs.map Int.toNat = w) (e3 : c.toNat = r) : wicR n ds xs c = (wrdN ms w r, 0) := by
  unfold wicR
  rw [if_pos h, if_pos hc, e1, e2, e3]
theorem wicR_nz {n : Int} {ds xs : List Int} {c : Int} (h : (wicR n ds xs c).2 ≠ 0) : (wicR n ds xs c).1 = [] := by
  unfold wicR at h ⊢
  split
  · rename_i h1
    rw [if_pos h1] at h
    split
    · rename_i h2; rw [if_pos h2] at h; exact absurd rfl h
    · rfl
  · rfl
theorem wicR_le (n : Int) (ds xs : List Int) (c : Int) : (wicR n ds xs c).2 ≠ 0 → OLe nilS (ints (natI (wicR n ds xs c).1)) := fun h => ints_nil_le (wicR_nz h)
theorem wicR_len (n : Int) (ds xs : List Int) (c : Int) : (natI (wicR n ds xs c).1).length ≤ 24 := by
  rw [natI_length]
  by_cases h : (clsR n ds xs).2 = 0
  · by_cases hc : 0 ≤ c ∧ c ≤ (clsR n ds xs).1 - 1
    · obtain ⟨ms, w, e1, e2, rfl, rfl, hl, hA, rfl, hwl, hw, hcw, hr⟩ := clsR_ok h
      rw [wicR_ok h hc e1 e2 rfl]
      exact Nat.le_trans (wrdK_len ..) hwl
    · rw [wicR_out h hc]; simp
  · rw [wicR_bad h]; simp
theorem drop_range {n b : Nat} (h : b < n) : (List.range n).drop b = b :: (List.range n).drop (b + 1) := by
  rw [List.drop_eq_getElem_cons (by simpa using h), List.getElem_range]
theorem ne_nil_len {w : List Nat} (h : 0 < w.length) : w ≠ [] := fun e => by rw [e] at h; simp at h
set_option maxHeartbeats 4000000 in
set_option maxRecDepth 100000 in
theorem wicS_ret (n : Int) (ds xs : List Int) (c : Int) (hd : ds.length < 2 ^ 62) (hx : xs.length < 2 ^ 62) : Ret Tryd.prog G0 35 [⟨.ro, .agg [i64 n, ints ds]⟩, ⟨.ro, .one (ints xs)⟩, ⟨.ro, .one (i64 c)⟩] ⟨.tup [(false, [ints (natI (wicR n ds xs c).1)]), (false, [i64 (wicR n ds xs c).2])], []⟩ := by
  refine Ret.nz ?_ (wicR_le n ds xs c)
  have hcc := countClassS_ret n ds xs hd hx
  by_cases h : (clsR n ds xs).2 = 0
  · by_cases hcr : 0 ≤ c ∧ c ≤ (clsR n ds xs).1 - 1
    · obtain ⟨ms, w, e1, e2, rfl, rfl, hl, hA, rfl, hwl, hw, hcw, hr⟩ := clsR_ok h
      obtain ⟨r0, rfl⟩ : ∃ r0 : Nat, c = r0 := ⟨c.toNat, by omega⟩
      rw [wicR_ok h hcr e1 e2 (Int.toNat_natCast r0)]
      rw [hr] at hcc hcr
      dsimp only at hcr
      have hwn := natI_length w
      have hsub : IntKind.i64.wrap (((clsW ms w : Nat) : Int) - 1) = ((clsW ms w : Nat) : Int) - 1 := wrap_i64 (by omega) (by omega)
      have hin := l01In_ret (r0 : Int) 0 (((clsW ms w : Nat) : Int) - 1)
      rw [decide_eq_true hcr] at hin
      (refine ret_of_den (E := en 70 [] (fun | 7 => [(2, 0), (3, 0), (10, 0), (11, 0)] | 9 => [(2, 0), (3, 0), (10, 0), (11, 0), (12, 0)] | _ => []) (fun _ => [])) tt_ok mixed Tryd.func35 rfl rfl rfl rfl ?_; refine ⟨by simp, ?_⟩)
      repeat' (first | (refine opt_some (getC_rows rfl rfl (by omega)) ?_; conv => whnf) | (refine opt_some (by dsimp only; exact getC_lent rfl rfl (by omega)) ?_; conv => whnf) | (refine opt_some rfl ?_; conv => whnf) | (refine ⟨_, (by simp only [nf, nl, nm, en, ints, setC_setC, Nat.reduceAdd, Nat.reduceMul]; exact rfl), ?_⟩; conv => whnf) | (refine ⟨_, pick_at rfl (by first | omega | (simp only [plain_i64, plain_ints, plain_nil, all_ints]; done) | (dsimp only; omega) | exact Nat.le_of_ble_eq_true rfl | rfl | (simp; done) | (simp only [htf] at *; first | omega | (simp; omega))), ?_⟩; conv => whnf) | (refine ⟨_, rfl, ?_⟩; conv => whnf) | (first | refine iteP_true rfl ?_ | refine iteP_false rfl ?_ | refine iteP_true ‹_› ?_ | refine iteP_false ‹_› ?_; conv => whnf) | (refine And.intro (by kernel_rfl : indep _ _ = true) ?_; conv => whnf) | (refine And.intro (by rfl : List.all _ _ = true) ?_; conv => whnf) | (refine And.intro (by first | omega | (simp only [plain_i64, plain_ints, plain_nil, all_ints]; done) | (dsimp only; omega) | exact Nat.le_of_ble_eq_true rfl | rfl | (simp; done) | (simp only [htf] at *; first | omega | (simp; omega))) ?_; conv => whnf) | (refine iteP_intro (fun hb => ?_) (fun hb => ?_) <;> (conv => whnf)))
      (refine ⟨_, hcc, ?_⟩; conv => whnf)
      repeat' (first | (refine opt_some (getC_rows rfl rfl (by omega)) ?_; conv => whnf) | (refine opt_some (by dsimp only; exact getC_lent rfl rfl (by omega)) ?_; conv => whnf) | (refine opt_some rfl ?_; conv => whnf) | (refine ⟨_, (by simp only [nf, nl, nm, en, ints, setC_setC, Nat.reduceAdd, Nat.reduceMul, hsub]; exact rfl), ?_⟩; conv => whnf) | (refine ⟨_, pick_at rfl (by first | omega | (simp only [plain_i64, plain_ints, plain_nil, all_ints]; done) | (dsimp only; omega) | exact Nat.le_of_ble_eq_true rfl | rfl | (simp; done) | (simp only [htf] at *; first | omega | (simp; omega))), ?_⟩; conv => whnf) | (refine ⟨_, rfl, ?_⟩; conv => whnf) | (first | refine iteP_true rfl ?_ | refine iteP_false rfl ?_ | refine iteP_true ‹_› ?_ | refine iteP_false ‹_› ?_; conv => whnf) | (refine And.intro (by kernel_rfl : indep _ _ = true) ?_; conv => whnf) | (refine And.intro (by rfl : List.all _ _ = true) ?_; conv => whnf) | (refine And.intro (by first | omega | (simp only [plain_i64, plain_ints, plain_nil, all_ints]; done) | (dsimp only; omega) | exact Nat.le_of_ble_eq_true rfl | rfl | (simp; done) | (simp only [htf] at *; first | omega | (simp; omega))) ?_; conv => whnf) | (refine iteP_intro (fun hb => ?_) (fun hb => ?_) <;> (conv => whnf)))
      (refine ⟨_, hin, ?_⟩; conv => whnf)
      repeat' (first | (refine opt_some (getC_rows rfl rfl (by omega)) ?_; conv => whnf) | (refine opt_some (by dsimp only; exact getC_lent rfl rfl (by omega)) ?_; conv => whnf) | (refine opt_some rfl ?_; conv => whnf) | (refine ⟨_, (by simp only [nf, nl, nm, en, ints, setC_setC, Nat.reduceAdd, Nat.reduceMul]; exact rfl), ?_⟩; conv => whnf) | (refine ⟨_, pick_at rfl (by first | omega | (simp only [plain_i64, plain_ints, plain_nil, all_ints]; done) | (dsimp only; omega) | exact Nat.le_of_ble_eq_true rfl | rfl | (simp; done) | (simp only [htf] at *; first | omega | (simp; omega))), ?_⟩; conv => whnf) | (refine ⟨_, rfl, ?_⟩; conv => whnf) | (first | refine iteP_true rfl ?_ | refine iteP_false rfl ?_ | refine iteP_true ‹_› ?_ | refine iteP_false ‹_› ?_; conv => whnf) | (refine And.intro (by kernel_rfl : indep _ _ = true) ?_; conv => whnf) | (refine And.intro (by rfl : List.all _ _ = true) ?_; conv => whnf) | (refine And.intro (by first | omega | (simp only [plain_i64, plain_ints, plain_nil, all_ints]; done) | (dsimp only; omega) | exact Nat.le_of_ble_eq_true rfl | rfl | (simp; done) | (simp only [htf] at *; first | omega | (simp; omega))) ?_; conv => whnf) | (refine iteP_intro (fun hb => ?_) (fun hb => ?_) <;> (conv => whnf)))
      (refine ⟨_, l01Own_ret (natI w) (by omega), ?_⟩; conv => whnf)
      repeat (first | (refine opt_some (getC_rows rfl rfl (by omega)) ?_; conv => whnf) | (refine opt_some (by dsimp only; exact getC_lent rfl rfl (by omega)) ?_; conv => whnf) | (refine opt_some rfl ?_; conv => whnf) | (refine ⟨_, (by simp only [nf, nl, nm, en, ints, setC_setC, Nat.reduceAdd, Nat.reduceMul]; exact rfl), ?_⟩; conv => whnf) | (refine ⟨_, pick_at rfl (by first | omega | (simp only [plain_i64, plain_ints, plain_nil, all_ints]; done) | (dsimp only; omega) | exact Nat.le_of_ble_eq_true rfl | rfl | (simp; done) | (simp only [htf] at *; first | omega | (simp; omega))), ?_⟩; conv => whnf) | (refine ⟨_, rfl, ?_⟩; conv => whnf) | (first | refine iteP_true rfl ?_ | refine iteP_false rfl ?_ | refine iteP_true ‹_› ?_ | refine iteP_false ‹_› ?_; conv => whnf) | (refine And.intro (by kernel_rfl : indep _ _ = true) ?_; conv => whnf) | (refine And.intro (by rfl : List.all _ _ = true) ?_; conv => whnf) | (refine And.intro (by first | omega | (simp only [plain_i64, plain_ints, plain_nil, all_ints]; done) | (dsimp only; omega) | exact Nat.le_of_ble_eq_true rfl | rfl | (simp; done) | (simp only [htf] at *; first | omega | (simp; omega))) ?_; conv => whnf))
      refine ⟨fun k vs => ∃ (acc rest : List Nat) (r : Nat), WiAt ms w acc rest r0 r ∧ vs = [.one (i64 r), .one (.ptr [i64 ms.length, .shd (ints (natI ms))]), .one (ints (natI acc)), .one (ints (natI rest))] ∧ k = rest.length, rfl, ⟨_, [], w, r0, .start hw hwl (by omega) hcw, rfl, rfl⟩, ?_⟩
      rintro k vs ⟨acc, rest, r, hat, rfl, rfl⟩
      have hrn := natI_length rest
      have han := natI_length acc
      have hle := hat.le
      repeat (first | (refine opt_some (getC_rows rfl rfl (by omega)) ?_; conv => whnf) | (refine opt_some (by dsimp only; exact getC_lent rfl rfl (by omega)) ?_; conv => whnf) | (refine opt_some rfl ?_; conv => whnf) | (refine ⟨_, (by simp only [nf, nl, nm, en, ints, setC_setC, Nat.reduceAdd, Nat.reduceMul]; exact rfl), ?_⟩; conv => whnf) | (refine ⟨_, pick_at rfl (by first | omega | (simp only [plain_i64, plain_ints, plain_nil, all_ints]; done) | (dsimp only; omega) | exact Nat.le_of_ble_eq_true rfl | rfl | (simp; done) | (simp only [htf] at *; first | omega | (simp; omega))), ?_⟩; conv => whnf) | (refine ⟨_, rfl, ?_⟩; conv => whnf) | (first | refine iteP_true rfl ?_ | refine iteP_false rfl ?_ | refine iteP_true ‹_› ?_ | refine iteP_false ‹_› ?_; conv => whnf) | (refine And.intro (by kernel_rfl : indep _ _ = true) ?_; conv => whnf) | (refine And.intro (by rfl : List.all _ _ = true) ?_; conv => whnf) | (refine And.intro (by first | omega | (simp only [plain_i64, plain_ints, plain_nil, all_ints]; done) | (dsimp only; omega) | exact Nat.le_of_ble_eq_true rfl | rfl | (simp; done) | (simp only [htf] at *; first | omega | (simp; omega))) ?_; conv => whnf))
      refine iteP_intro (fun hb => ?_) (fun hb => ?_) <;> (conv => whnf)
      · have hp : 0 < rest.length := by have := leT hb; omega
        have hne := ne_nil_len hp
        obtain ⟨a, q, hpk, hal, hca, hq⟩ := pk_ok hne hat.lt
        obtain ⟨hs1, hs2⟩ := hat.step hA hne hal hpk hca hq
        have hrw := hat.wd
        have hcap := hat.cap
        repeat (first | (refine opt_some (getC_rows rfl rfl (by omega)) ?_; conv => whnf) | (refine opt_some (by dsimp only; exact getC_lent rfl rfl (by omega)) ?_; conv => whnf) | (refine opt_some rfl ?_; conv => whnf) | (refine ⟨_, (by simp only [nf, nl, nm, en, ints, setC_setC, Nat.reduceAdd, Nat.reduceMul]; exact rfl), ?_⟩; conv => whnf) | (refine ⟨_, pick_at rfl (by first | omega | (simp only [plain_i64, plain_ints, plain_nil, all_ints]; done) | (dsimp only; omega) | exact Nat.le_of_ble_eq_true rfl | rfl | (simp; done) | (simp only [htf] at *; first | omega | (simp; omega))), ?_⟩; conv => whnf) | (refine ⟨_, rfl, ?_⟩; conv => whnf) | (first | refine iteP_true rfl ?_ | refine iteP_false rfl ?_ | refine iteP_true ‹_› ?_ | refine iteP_false ‹_› ?_; conv => whnf) | (refine And.intro (by kernel_rfl : indep _ _ = true) ?_; conv => whnf) | (refine And.intro (by rfl : List.all _ _ = true) ?_; conv => whnf) | (refine And.intro (by first | omega | (simp only [plain_i64, plain_ints, plain_nil, all_ints]; done) | (dsimp only; omega) | exact Nat.le_of_ble_eq_true rfl | rfl | (simp; done) | (simp only [htf] at *; first | omega | (simp; omega))) ?_; conv => whnf))
        refine ⟨fun k vs => ∃ b r' : Nat, b ≤ ms.length ∧ r' ≤ r ∧ pk ms rest ((List.range ms.length).drop b) r' = some (a, q) ∧ vs = [.one (i64 r'), .one (.ptr [i64 ms.length, .shd (ints (natI ms))]), .one (ints (natI acc)), .one (ints (natI rest)), .one (i64 b)] ∧ k = ms.length - b, rfl, ⟨_, 0, r, by omega, by omega, hpk, rfl, rfl⟩, ?_⟩
        rintro k vs ⟨b, r', hb1, hrr, hpb, rfl, rfl⟩
        have hrlt := hat.lt
        repeat (first | (refine opt_some (getC_rows rfl rfl (by omega)) ?_; conv => whnf) | (refine opt_some (by dsimp only; exact getC_lent rfl rfl (by omega)) ?_; conv => whnf) | (refine opt_some rfl ?_; conv => whnf) | (refine ⟨_, (by simp only [nf, nl, nm, en, ints, setC_setC, Nat.reduceAdd, Nat.reduceMul]; exact rfl), ?_⟩; conv => whnf) | (refine ⟨_, pick_at rfl (by first | omega | (simp only [plain_i64, plain_ints, plain_nil, all_ints]; done) | (dsimp only; omega) | exact Nat.le_of_ble_eq_true rfl | rfl | (simp; done) | (simp only [htf] at *; first | omega | (simp; omega))), ?_⟩; conv => whnf) | (refine ⟨_, rfl, ?_⟩; conv => whnf) | (first | refine iteP_true rfl ?_ | refine iteP_false rfl ?_ | refine iteP_true ‹_› ?_ | refine iteP_false ‹_› ?_; conv => whnf) | (refine And.intro (by kernel_rfl : indep _ _ = true) ?_; conv => whnf) | (refine And.intro (by rfl : List.all _ _ = true) ?_; conv => whnf) | (refine And.intro (by first | omega | (simp only [plain_i64, plain_ints, plain_nil, all_ints]; done) | (dsimp only; omega) | exact Nat.le_of_ble_eq_true rfl | rfl | (simp; done) | (simp only [htf] at *; first | omega | (simp; omega))) ?_; conv => whnf))
        refine iteP_intro (fun hb => ?_) (fun hb => ?_) <;> (conv => whnf)
        · have hb' : b < ms.length := by have := leT hb; omega
          rw [drop_range hb'] at hpb
          have hfr := l03First_ret ms rest b (by omega) hA.lt hrw (by omega) (by omega)
          have hfs := frI_spec (ms := ms) (a := b) rest 0
          repeat (first | (refine opt_some (getC_rows rfl rfl (by omega)) ?_; conv => whnf) | (refine opt_some (by dsimp only; exact getC_lent rfl rfl (by omega)) ?_; conv => whnf) | (refine opt_some rfl ?_; conv => whnf) | (refine ⟨_, (by simp only [nf, nl, nm, en, ints, setC_setC, Nat.reduceAdd, Nat.reduceMul]; exact rfl), ?_⟩; conv => whnf) | (refine ⟨_, pick_at rfl (by first | omega | (simp only [plain_i64, plain_ints, plain_nil, all_ints]; done) | (dsimp only; omega) | exact Nat.le_of_ble_eq_true rfl | rfl | (simp; done) | (simp only [htf] at *; first | omega | (simp; omega))), ?_⟩; conv => whnf) | (refine ⟨_, rfl, ?_⟩; conv => whnf) | (first | refine iteP_true rfl ?_ | refine iteP_false rfl ?_ | refine iteP_true ‹_› ?_ | refine iteP_false ‹_› ?_; conv => whnf) | (refine And.intro (by kernel_rfl : indep _ _ = true) ?_; conv => whnf) | (refine And.intro (by rfl : List.all _ _ = true) ?_; conv => whnf) | (refine And.intro (by first | omega | (simp only [plain_i64, plain_ints, plain_nil, all_ints]; done) | (dsimp only; omega) | exact Nat.le_of_ble_eq_true rfl | rfl | (simp; done) | (simp only [htf] at *; first | omega | (simp; omega))) ?_; conv => whnf))
          rcases hfs with ⟨h1, j, h2, h3, h4⟩ | ⟨h1, h2⟩
          · have h3 : frI ms b rest 0 = (j : Int) := by rw [show (0 : Int) = ((0 : Nat) : Int) from rfl, h3, Nat.zero_add]
            rw [h3] at hfr
            have hwo := l03Without_ret rest j (by omega) h2
            rw [h4] at hwo
            have hel := erase_length (canF_mem h1)
            have hco := l03Count_ret ms (rest.erase b) hl hA (hrw.erase b) (by omega)
            have htr := trk_t h1
            have h5 : decide ((j : Int) < 0) = false := decide_eq_false (by omega)
            (refine ⟨_, hfr, ?_⟩; conv => whnf)
            repeat (first | (refine opt_some (getC_rows rfl rfl (by omega)) ?_; conv => whnf) | (refine opt_some (by dsimp only; exact getC_lent rfl rfl (by omega)) ?_; conv => whnf) | (refine opt_some rfl ?_; conv => whnf) | (refine ⟨_, (by simp only [nf, nl, nm, en, ints, setC_setC, Nat.reduceAdd, Nat.reduceMul]; exact rfl), ?_⟩; conv => whnf) | (refine ⟨_, pick_at rfl (by first | omega | (simp only [plain_i64, plain_ints, plain_nil, all_ints]; done) | (dsimp only; omega) | exact Nat.le_of_ble_eq_true rfl | rfl | (simp; done) | (simp only [htf] at *; first | omega | (simp; omega))), ?_⟩; conv => whnf) | (refine ⟨_, rfl, ?_⟩; conv => whnf) | (first | refine iteP_true rfl ?_ | refine iteP_false rfl ?_ | refine iteP_true ‹_› ?_ | refine iteP_false ‹_› ?_; conv => whnf) | (refine And.intro (by kernel_rfl : indep _ _ = true) ?_; conv => whnf) | (refine And.intro (by rfl : List.all _ _ = true) ?_; conv => whnf) | (refine And.intro (by first | omega | (simp only [plain_i64, plain_ints, plain_nil, all_ints]; done) | (dsimp only; omega) | exact Nat.le_of_ble_eq_true rfl | rfl | (simp; done) | (simp only [htf] at *; first | omega | (simp; omega))) ?_; conv => whnf))
            (refine ⟨_, hwo, ?_⟩; conv => whnf)
            repeat (first | (refine opt_some (getC_rows rfl rfl (by omega)) ?_; conv => whnf) | (refine opt_some (by dsimp only; exact getC_lent rfl rfl (by omega)) ?_; conv => whnf) | (refine opt_some rfl ?_; conv => whnf) | (refine ⟨_, (by simp only [nf, nl, nm, en, ints, setC_setC, Nat.reduceAdd, Nat.reduceMul]; exact rfl), ?_⟩; conv => whnf) | (refine ⟨_, pick_at rfl (by first | omega | (simp only [plain_i64, plain_ints, plain_nil, all_ints]; done) | (dsimp only; omega) | exact Nat.le_of_ble_eq_true rfl | rfl | (simp; done) | (simp only [htf] at *; first | omega | (simp; omega))), ?_⟩; conv => whnf) | (refine ⟨_, rfl, ?_⟩; conv => whnf) | (first | refine iteP_true rfl ?_ | refine iteP_false rfl ?_ | refine iteP_true ‹_› ?_ | refine iteP_false ‹_› ?_; conv => whnf) | (refine And.intro (by kernel_rfl : indep _ _ = true) ?_; conv => whnf) | (refine And.intro (by rfl : List.all _ _ = true) ?_; conv => whnf) | (refine And.intro (by first | omega | (simp only [plain_i64, plain_ints, plain_nil, all_ints]; done) | (dsimp only; omega) | exact Nat.le_of_ble_eq_true rfl | rfl | (simp; done) | (simp only [htf] at *; first | omega | (simp; omega))) ?_; conv => whnf))
            (refine ⟨_, hco, ?_⟩; conv => whnf)
            repeat (first | (refine opt_some (getC_rows rfl rfl (by omega)) ?_; conv => whnf) | (refine opt_some (by dsimp only; exact getC_lent rfl rfl (by omega)) ?_; conv => whnf) | (refine opt_some rfl ?_; conv => whnf) | (refine ⟨_, (by simp only [nf, nl, nm, en, ints, setC_setC, Nat.reduceAdd, Nat.reduceMul]; exact rfl), ?_⟩; conv => whnf) | (refine ⟨_, pick_at rfl (by first | omega | (simp only [plain_i64, plain_ints, plain_nil, all_ints]; done) | (dsimp only; omega) | exact Nat.le_of_ble_eq_true rfl | rfl | (simp; done) | (simp only [htf] at *; first | omega | (simp; omega))), ?_⟩; conv => whnf) | (refine ⟨_, rfl, ?_⟩; conv => whnf) | (first | refine iteP_true rfl ?_ | refine iteP_false rfl ?_ | refine iteP_true ‹_› ?_ | refine iteP_false ‹_› ?_; conv => whnf) | (refine And.intro (by kernel_rfl : indep _ _ = true) ?_; conv => whnf) | (refine And.intro (by rfl : List.all _ _ = true) ?_; conv => whnf) | (refine And.intro (by first | omega | (simp only [plain_i64, plain_ints, plain_nil, all_ints]; done) | (dsimp only; omega) | exact Nat.le_of_ble_eq_true rfl | rfl | (simp; done) | (simp only [htf] at *; first | omega | (simp; omega))) ?_; conv => whnf))
            refine iteP_intro (fun hb => ?_) (fun hb => ?_) <;> (conv => whnf)
            · have hlt : r' < trk ms rest b := by have := leT hb; omega
              rw [pk_t hlt] at hpb
              obtain ⟨rfl, rfl⟩ := Prod.mk.inj (Option.some.inj hpb)
              repeat (first | (refine opt_some (getC_rows rfl rfl (by omega)) ?_; conv => whnf) | (refine opt_some (by dsimp only; exact getC_lent rfl rfl (by omega)) ?_; conv => whnf) | (refine opt_some rfl ?_; conv => whnf) | (refine ⟨_, (by simp only [nf, nl, nm, en, ints, setC_setC, Nat.reduceAdd, Nat.reduceMul]; exact rfl), ?_⟩; conv => whnf) | (refine ⟨_, pick_at rfl (by first | omega | (simp only [plain_i64, plain_ints, plain_nil, all_ints]; done) | (dsimp only; omega) | exact Nat.le_of_ble_eq_true rfl | rfl | (simp; done) | (simp only [htf] at *; first | omega | (simp; omega))), ?_⟩; conv => whnf) | (refine ⟨_, rfl, ?_⟩; conv => whnf) | (first | refine iteP_true rfl ?_ | refine iteP_false rfl ?_ | refine iteP_true ‹_› ?_ | refine iteP_false ‹_› ?_; conv => whnf) | (refine And.intro (by kernel_rfl : indep _ _ = true) ?_; conv => whnf) | (refine And.intro (by rfl : List.all _ _ = true) ?_; conv => whnf) | (refine And.intro (by first | omega | (simp only [plain_i64, plain_ints, plain_nil, all_ints]; done) | (dsimp only; omega) | exact Nat.le_of_ble_eq_true rfl | rfl | (simp; done) | (simp only [htf] at *; first | omega | (simp; omega))) ?_; conv => whnf))
              (refine ⟨_, hwo, ?_⟩; conv => whnf)
              repeat (first | (refine opt_some (getC_rows rfl rfl (by omega)) ?_; conv => whnf) | (refine opt_some (by dsimp only; exact getC_lent rfl rfl (by omega)) ?_; conv => whnf) | (refine opt_some rfl ?_; conv => whnf) | (refine ⟨_, (by simp only [nf, nl, nm, en, ints, setC_setC, Nat.reduceAdd, Nat.reduceMul]; exact rfl), ?_⟩; conv => whnf) | (refine ⟨_, pick_at rfl (by first | omega | (simp only [plain_i64, plain_ints, plain_nil, all_ints]; done) | (dsimp only; omega) | exact Nat.le_of_ble_eq_true rfl | rfl | (simp; done) | (simp only [htf] at *; first | omega | (simp; omega))), ?_⟩; conv => whnf) | (refine ⟨_, rfl, ?_⟩; conv => whnf) | (first | refine iteP_true rfl ?_ | refine iteP_false rfl ?_ | refine iteP_true ‹_› ?_ | refine iteP_false ‹_› ?_; conv => whnf) | (refine And.intro (by kernel_rfl : indep _ _ = true) ?_; conv => whnf) | (refine And.intro (by rfl : List.all _ _ = true) ?_; conv => whnf) | (refine And.intro (by first | omega | (simp only [plain_i64, plain_ints, plain_nil, all_ints]; done) | (dsimp only; omega) | exact Nat.le_of_ble_eq_true rfl | rfl | (simp; done) | (simp only [htf] at *; first | omega | (simp; omega))) ?_; conv => whnf))
              refine ⟨_, ?_, acc ++ [b], rest.erase b, r', hs1, ?_, rfl⟩
              · omega
              · rw [ints_natI_snoc]
                rfl
            · have hlt : ¬ r' < trk ms rest b := by have := leF hb; omega
              rw [pk_f hlt] at hpb
              have hsb : IntKind.i64.wrap ((r' : Int) - ((clsW ms (rest.erase b) : Nat) : Int)) = ((r' - trk ms rest b : Nat) : Int) := by rw [wrap_i64 (by omega) (by omega)]; omega
              repeat (first | (refine opt_some (getC_rows rfl rfl (by omega)) ?_; conv => whnf) | (refine opt_some (by dsimp only; exact getC_lent rfl rfl (by omega)) ?_; conv => whnf) | (refine opt_some rfl ?_; conv => whnf) | (refine ⟨_, (by simp only [nf, nl, nm, en, ints, setC_setC, Nat.reduceAdd, Nat.reduceMul, hsb]; exact rfl), ?_⟩; conv => whnf) | (refine ⟨_, pick_at rfl (by first | omega | (simp only [plain_i64, plain_ints, plain_nil, all_ints]; done) | (dsimp only; omega) | exact Nat.le_of_ble_eq_true rfl | rfl | (simp; done) | (simp only [htf] at *; first | omega | (simp; omega))), ?_⟩; conv => whnf) | (refine ⟨_, rfl, ?_⟩; conv => whnf) | (first | refine iteP_true rfl ?_ | refine iteP_false rfl ?_ | refine iteP_true ‹_› ?_ | refine iteP_false ‹_› ?_; conv => whnf) | (refine And.intro (by kernel_rfl : indep _ _ = true) ?_; conv => whnf) | (refine And.intro (by rfl : List.all _ _ = true) ?_; conv => whnf) | (refine And.intro (by first | omega | (simp only [plain_i64, plain_ints, plain_nil, all_ints]; done) | (dsimp only; omega) | exact Nat.le_of_ble_eq_true rfl | rfl | (simp; done) | (simp only [htf] at *; first | omega | (simp; omega))) ?_; conv => whnf))
              refine ⟨_, ?_, b + 1, r' - trk ms rest b, hb', by omega, hpb, ?_, rfl⟩
              · omega
              · rw [wrap_succ (by omega)]
                rfl
          · have h2 : frI ms b rest 0 = -1 := h2
            rw [h2] at hfr
            rw [pk_f (by rw [trk_f h1]; omega), trk_f h1, Nat.sub_zero] at hpb
            (refine ⟨_, hfr, ?_⟩; conv => whnf)
            repeat (first | (refine opt_some (getC_rows rfl rfl (by omega)) ?_; conv => whnf) | (refine opt_some (by dsimp only; exact getC_lent rfl rfl (by omega)) ?_; conv => whnf) | (refine opt_some rfl ?_; conv => whnf) | (refine ⟨_, (by simp only [nf, nl, nm, en, ints, setC_setC, Nat.reduceAdd, Nat.reduceMul]; exact rfl), ?_⟩; conv => whnf) | (refine ⟨_, pick_at rfl (by first | omega | (simp only [plain_i64, plain_ints, plain_nil, all_ints]; done) | (dsimp only; omega) | exact Nat.le_of_ble_eq_true rfl | rfl | (simp; done) | (simp only [htf] at *; first | omega | (simp; omega))), ?_⟩; conv => whnf) | (refine ⟨_, rfl, ?_⟩; conv => whnf) | (first | refine iteP_true rfl ?_ | refine iteP_false rfl ?_ | refine iteP_true ‹_› ?_ | refine iteP_false ‹_› ?_; conv => whnf) | (refine And.intro (by kernel_rfl : indep _ _ = true) ?_; conv => whnf) | (refine And.intro (by rfl : List.all _ _ = true) ?_; conv => whnf) | (refine And.intro (by first | omega | (simp only [plain_i64, plain_ints, plain_nil, all_ints]; done) | (dsimp only; omega) | exact Nat.le_of_ble_eq_true rfl | rfl | (simp; done) | (simp only [htf] at *; first | omega | (simp; omega))) ?_; conv => whnf))
            refine ⟨_, ?_, b + 1, r', hb', hrr, hpb, ?_, rfl⟩
            · omega
            · rw [wrap_succ (by omega)]
              rfl
        · exfalso
          obtain rfl : b = ms.length := by have := leF hb; omega
          rw [List.drop_of_length_le (by simp)] at hpb
          cases hpb
      · have h0 : rest.length = 0 := by have := leF hb; omega
        repeat' (first | (refine opt_some (getC_rows rfl rfl (by omega)) ?_; conv => whnf) | (refine opt_some (by dsimp only; exact getC_lent rfl rfl (by omega)) ?_; conv => whnf) | (refine opt_some rfl ?_; conv => whnf) | (refine ⟨_, (by simp only [nf, nl, nm, en, ints, setC_setC, Nat.reduceAdd, Nat.reduceMul]; exact rfl), ?_⟩; conv => whnf) | (refine ⟨_, pick_at rfl (by first | omega | (simp only [plain_i64, plain_ints, plain_nil, all_ints]; done) | (dsimp only; omega) | exact Nat.le_of_ble_eq_true rfl | rfl | (simp; done) | (simp only [htf] at *; first | omega | (simp; omega))), ?_⟩; conv => whnf) | (refine ⟨_, rfl, ?_⟩; conv => whnf) | (first | refine iteP_true rfl ?_ | refine iteP_false rfl ?_ | refine iteP_true ‹_› ?_ | refine iteP_false ‹_› ?_; conv => whnf) | (refine And.intro (by kernel_rfl : indep _ _ = true) ?_; conv => whnf) | (refine And.intro (by rfl : List.all _ _ = true) ?_; conv => whnf) | (refine And.intro (by first | omega | (simp only [plain_i64, plain_ints, plain_nil, all_ints]; done) | (dsimp only; omega) | exact Nat.le_of_ble_eq_true rfl | rfl | (simp; done) | (simp only [htf] at *; first | omega | (simp; omega))) ?_; conv => whnf) | (refine iteP_intro (fun hb => ?_) (fun hb => ?_) <;> (conv => whnf)))
        rw [hat.stop h0]
        rfl
    · rw [wicR_out h hcr]
      have hin := l01In_ret c 0 ((clsR n ds xs).1 - 1)
      rw [decide_eq_false hcr] at hin
      obtain ⟨ms, w, e1, e2, rfl, rfl, hl, hA, rfl, hwl, hw, hcw, hr⟩ := clsR_ok h
      rw [hr] at hcc hin
      dsimp only at hin
      have hpo := clsW_pos hw
      have hsub : IntKind.i64.wrap (((clsW ms w : Nat) : Int) - 1) = ((clsW ms w : Nat) : Int) - 1 := wrap_i64 (by omega) (by omega)
      (refine ret_of_den (E := en 70 [] (fun | 7 => [(2, 0), (3, 0), (10, 0), (11, 0)] | 9 => [(2, 0), (3, 0), (10, 0), (11, 0), (12, 0)] | _ => []) (fun _ => [])) tt_ok mixed Tryd.func35 rfl rfl rfl rfl ?_; refine ⟨by simp, ?_⟩)
      repeat' (first | (refine opt_some (getC_rows rfl rfl (by omega)) ?_; conv => whnf) | (refine opt_some (by dsimp only; exact getC_lent rfl rfl (by omega)) ?_; conv => whnf) | (refine opt_some rfl ?_; conv => whnf) | (refine ⟨_, (by simp only [nf, nl, nm, en, ints, setC_setC, Nat.reduceAdd, Nat.reduceMul]; exact rfl), ?_⟩; conv => whnf) | (refine ⟨_, pick_at rfl (by first | omega | (simp only [plain_i64, plain_ints, plain_nil, all_ints]; done) | (dsimp only; omega) | exact Nat.le_of_ble_eq_true rfl | rfl | (simp; done) | (simp only [htf] at *; first | omega | (simp; omega))), ?_⟩; conv => whnf) | (refine ⟨_, rfl, ?_⟩; conv => whnf) | (first | refine iteP_true rfl ?_ | refine iteP_false rfl ?_ | refine iteP_true ‹_› ?_ | refine iteP_false ‹_› ?_; conv => whnf) | (refine And.intro (by kernel_rfl : indep _ _ = true) ?_; conv => whnf) | (refine And.intro (by rfl : List.all _ _ = true) ?_; conv => whnf) | (refine And.intro (by first | omega | (simp only [plain_i64, plain_ints, plain_nil, all_ints]; done) | (dsimp only; omega) | exact Nat.le_of_ble_eq_true rfl | rfl | (simp; done) | (simp only [htf] at *; first | omega | (simp; omega))) ?_; conv => whnf) | (refine iteP_intro (fun hb => ?_) (fun hb => ?_) <;> (conv => whnf)))
      (refine ⟨_, hcc, ?_⟩; conv => whnf)
      repeat' (first | (refine opt_some (getC_rows rfl rfl (by omega)) ?_; conv => whnf) | (refine opt_some (by dsimp only; exact getC_lent rfl rfl (by omega)) ?_; conv => whnf) | (refine opt_some rfl ?_; conv => whnf) | (refine ⟨_, (by simp only [nf, nl, nm, en, ints, setC_setC, Nat.reduceAdd, Nat.reduceMul, hsub]; exact rfl), ?_⟩; conv => whnf) | (refine ⟨_, pick_at rfl (by first | omega | (simp only [plain_i64, plain_ints, plain_nil, all_ints]; done) | (dsimp only; omega) | exact Nat.le_of_ble_eq_true rfl | rfl | (simp; done) | (simp only [htf] at *; first | omega | (simp; omega))), ?_⟩; conv => whnf) | (refine ⟨_, rfl, ?_⟩; conv => whnf) | (first | refine iteP_true rfl ?_ | refine iteP_false rfl ?_ | refine iteP_true ‹_› ?_ | refine iteP_false ‹_› ?_; conv => whnf) | (refine And.intro (by kernel_rfl : indep _ _ = true) ?_; conv => whnf) | (refine And.intro (by rfl : List.all _ _ = true) ?_; conv => whnf) | (refine And.intro (by first | omega | (simp only [plain_i64, plain_ints, plain_nil, all_ints]; done) | (dsimp only; omega) | exact Nat.le_of_ble_eq_true rfl | rfl | (simp; done) | (simp only [htf] at *; first | omega | (simp; omega))) ?_; conv => whnf) | (refine iteP_intro (fun hb => ?_) (fun hb => ?_) <;> (conv => whnf)))
      (refine ⟨_, hin, ?_⟩; conv => whnf)
      repeat' (first | (refine opt_some (getC_rows rfl rfl (by omega)) ?_; conv => whnf) | (refine opt_some (by dsimp only; exact getC_lent rfl rfl (by omega)) ?_; conv => whnf) | (refine opt_some rfl ?_; conv => whnf) | (refine ⟨_, (by simp only [nf, nl, nm, en, ints, setC_setC, Nat.reduceAdd, Nat.reduceMul]; exact rfl), ?_⟩; conv => whnf) | (refine ⟨_, pick_at rfl (by first | omega | (simp only [plain_i64, plain_ints, plain_nil, all_ints]; done) | (dsimp only; omega) | exact Nat.le_of_ble_eq_true rfl | rfl | (simp; done) | (simp only [htf] at *; first | omega | (simp; omega))), ?_⟩; conv => whnf) | (refine ⟨_, rfl, ?_⟩; conv => whnf) | (first | refine iteP_true rfl ?_ | refine iteP_false rfl ?_ | refine iteP_true ‹_› ?_ | refine iteP_false ‹_› ?_; conv => whnf) | (refine And.intro (by kernel_rfl : indep _ _ = true) ?_; conv => whnf) | (refine And.intro (by rfl : List.all _ _ = true) ?_; conv => whnf) | (refine And.intro (by first | omega | (simp only [plain_i64, plain_ints, plain_nil, all_ints]; done) | (dsimp only; omega) | exact Nat.le_of_ble_eq_true rfl | rfl | (simp; done) | (simp only [htf] at *; first | omega | (simp; omega))) ?_; conv => whnf) | (refine iteP_intro (fun hb => ?_) (fun hb => ?_) <;> (conv => whnf)))
      rfl
  · rw [wicR_bad h]
    generalize clsR n ds xs = q at h hcc
    have hcb : (q.2 != 0) = true := by simpa using h
    have hcb2 : (q.2 == 0) = false := by simpa using h
    (refine ret_of_den (E := en 70 [] (fun | 7 => [(2, 0), (3, 0), (10, 0), (11, 0)] | 9 => [(2, 0), (3, 0), (10, 0), (11, 0), (12, 0)] | _ => []) (fun _ => [])) tt_ok mixed Tryd.func35 rfl rfl rfl rfl ?_; refine ⟨by simp, ?_⟩)
    repeat' (first | (refine opt_some (getC_rows rfl rfl (by omega)) ?_; conv => whnf) | (refine opt_some (by dsimp only; exact getC_lent rfl rfl (by omega)) ?_; conv => whnf) | (refine opt_some rfl ?_; conv => whnf) | (refine ⟨_, (by simp only [nf, nl, nm, en, ints, setC_setC, Nat.reduceAdd, Nat.reduceMul]; exact rfl), ?_⟩; conv => whnf) | (refine ⟨_, pick_at rfl (by first | omega | (simp only [plain_i64, plain_ints, plain_nil, all_ints]; done) | (dsimp only; omega) | exact Nat.le_of_ble_eq_true rfl | rfl | (simp; done) | (simp only [htf] at *; first | omega | (simp; omega))), ?_⟩; conv => whnf) | (refine ⟨_, rfl, ?_⟩; conv => whnf) | (first | refine iteP_true rfl ?_ | refine iteP_false rfl ?_ | refine iteP_true ‹_› ?_ | refine iteP_false ‹_› ?_; conv => whnf) | (refine And.intro (by kernel_rfl : indep _ _ = true) ?_; conv => whnf) | (refine And.intro (by rfl : List.all _ _ = true) ?_; conv => whnf) | (refine And.intro (by first | omega | (simp only [plain_i64, plain_ints, plain_nil, all_ints]; done) | (dsimp only; omega) | exact Nat.le_of_ble_eq_true rfl | rfl | (simp; done) | (simp only [htf] at *; first | omega | (simp; omega))) ?_; conv => whnf) | (refine iteP_intro (fun hb => ?_) (fun hb => ?_) <;> (conv => whnf)))
    (refine ⟨_, hcc, ?_⟩; conv => whnf)
    repeat' (first | (refine opt_some (getC_rows rfl rfl (by omega)) ?_; conv => whnf) | (refine opt_some (by dsimp only; exact getC_lent rfl rfl (by omega)) ?_; conv => whnf) | (refine opt_some rfl ?_; conv => whnf) | (refine ⟨_, (by simp only [nf, nl, nm, en, ints, setC_setC, Nat.reduceAdd, Nat.reduceMul, hcb, hcb2]; exact rfl), ?_⟩; conv => whnf) | (refine ⟨_, pick_at rfl (by first | omega | (simp only [plain_i64, plain_ints, plain_nil, all_ints]; done) | (dsimp only; omega) | exact Nat.le_of_ble_eq_true rfl | rfl | (simp; done) | (simp only [htf] at *; first | omega | (simp; omega))), ?_⟩; conv => whnf) | (refine ⟨_, rfl, ?_⟩; conv => whnf) | (first | refine iteP_true rfl ?_ | refine iteP_false rfl ?_ | refine iteP_true ‹_› ?_ | refine iteP_false ‹_› ?_; conv => whnf) | (refine And.intro (by kernel_rfl : indep _ _ = true) ?_; conv => whnf) | (refine And.intro (by rfl : List.all _ _ = true) ?_; conv => whnf) | (refine And.intro (by first | omega | (simp only [plain_i64, plain_ints, plain_nil, all_ints]; done) | (dsimp only; omega) | exact Nat.le_of_ble_eq_true rfl | rfl | (simp; done) | (simp only [htf] at *; first | omega | (simp; omega))) ?_; conv => whnf) | (refine iteP_intro (fun hb => ?_) (fun hb => ?_) <;> (conv => whnf)))
    unfold nz
    rw [if_neg h]
    rfl
end Go.Proofs.YtljhmkkmcbfffaaDoor
