import Derived.Test.YtljhmkkmcbfffaaDoorFu
set_option autoImplicit false
set_option linter.unusedSimpArgs false
set_option linter.unusedVariables false
namespace Go.Proofs.YtljhmkkmcbfffaaDoor
open Go.Den
/-- The numbers in all rules. -/
def totR : List (List Int × List Int) → Nat
  | [] => 0
  | r :: rs => r.1.length + r.2.length + totR rs
theorem totR_take_succ {rs : List (List Int × List Int)} {i : Nat} (h : i < rs.length) : totR (rs.take (i + 1)) = totR (rs.take i) + (rs[i].1.length + rs[i].2.length) := by
  induction rs generalizing i with
  | nil => simp at h
  | cons r rs ih =>
    cases i with
    | zero => simp [totR]
    | succ i =>
      have := ih (i := i) (by simpa using h)
      simp only [List.take_succ_cons, totR, List.getElem_cons_succ]
      omega
theorem totR_take_le (rs : List (List Int × List Int)) (i : Nat) : totR (rs.take i) ≤ totR rs := by
  induction rs generalizing i with
  | nil => simp [totR]
  | cons r rs ih =>
    cases i with
    | zero => simp [totR]
    | succ i =>
      have := ih i
      simp only [List.take_succ_cons, totR]
      omega
theorem totR_mem {rs : List (List Int × List Int)} {r : List Int × List Int} (h : r ∈ rs) : r.1.length ≤ totR rs ∧ r.2.length ≤ totR rs := by
  induction rs with
  | nil => cases h
  | cons x rs ih =>
    rcases List.mem_cons.1 h with rfl | h
    · simp only [totR]; omega
    · have := ih h
      simp only [totR]
      omega
/-- Rules marked from m on. -/
def markU (m : Int) : List (List Int × List Int) → List (List Int × List Int)
  | [] => []
  | r :: rs => (marks m r.1.length, marks (m + r.1.length) r.2.length) :: markU (m + (r.1.length + r.2.length : Nat)) rs
theorem markU_length : ∀ (m : Int) (rs : List (List Int × List Int)), (markU m rs).length = rs.length
  | _, [] => rfl
  | m, r :: rs => by simp only [markU, List.length_cons, markU_length _ rs]
theorem markU_get : ∀ {m : Int} {rs : List (List Int × List Int)} {i : Nat} (h : i < rs.length), (markU m rs)[i]? = some (marks (m + (totR (rs.take i) : Nat)) rs[i].1.length, marks (m + (totR (rs.take i) : Nat) + rs[i].1.length) rs[i].2.length)
  | m, r :: rs, 0, _ => by simp [markU, totR]
  | m, r :: rs, i + 1, h => by
    have := markU_get (m := m + (r.1.length + r.2.length : Nat)) (rs := rs) (i := i) (by simpa using h)
    simp only [markU, List.getElem?_cons_succ, List.getElem_cons_succ, List.take_succ_cons, totR]
    rw [this, show m + ((r.1.length + r.2.length : Nat) : Int) + (totR (rs.take i) : Nat) = m + (r.1.length + r.2.length + totR (rs.take i) : Nat) by omega]
def mkU (m : Int) (rs : List (List Int × List Int)) (i : Nat) : List (List Int × List Int) := (markU m rs).take i ++ rs.drop i
theorem mkU_length {m : Int} {rs : List (List Int × List Int)} {i : Nat} (h : i ≤ rs.length) : (mkU m rs i).length = rs.length := by
  simp [mkU, markU_length]
  omega
theorem mkU_get {m : Int} {rs : List (List Int × List Int)} {i : Nat} (h : i < rs.length) (h2 : i < (mkU m rs i).length) : (mkU m rs i)[i] = rs[i] := by
  have hl : ((markU m rs).take i).length = i := by rw [List.length_take, markU_length]; omega
  have : (mkU m rs i)[i]? = rs[i]? := by
    unfold mkU
    rw [List.getElem?_append_right (by omega), hl, Nat.sub_self, List.getElem?_drop, Nat.add_zero]
  rw [List.getElem?_eq_getElem h2, List.getElem?_eq_getElem h] at this
  exact Option.some.inj this
theorem mkU_set {m : Int} {rs : List (List Int × List Int)} {i : Nat} {x : List Int × List Int} (h : i < rs.length) (hx : (markU m rs)[i]? = some x) : (mkU m rs i).set i x = mkU m rs (i + 1) := by
  have hl : ((markU m rs).take i).length = i := by rw [List.length_take, markU_length]; omega
  have hm : i < (markU m rs).length := by rw [markU_length]; exact h
  have hx' : (markU m rs)[i] = x := by
    rw [List.getElem?_eq_getElem hm] at hx
    exact Option.some.inj hx
  unfold mkU
  rw [List.set_append_right _ _ (by omega), hl, Nat.sub_self, List.drop_eq_getElem_cons h, List.set_cons_zero, List.take_succ_eq_append_getElem hm, hx', List.append_assoc]
  rfl
theorem mkU_all (m : Int) (rs : List (List Int × List Int)) : mkU m rs rs.length = markU m rs := by
  unfold mkU
  rw [List.drop_length, List.append_nil]
  conv => lhs; rw [← markU_length m rs]
  exact List.take_length
theorem mkU_zero (m : Int) (rs : List (List Int × List Int)) : mkU m rs 0 = rs := rfl
theorem ruleC_getL {l : List (List Int × List Int)} {i : Nat} (h : i < l.length) : (l.flatMap ruleC)[i * 2]? = some (ints l[i].1) := by
  have := rules_drop h
  have h2 := congrArg (·[0]?) this
  simpa using h2
theorem ruleC_getR {l : List (List Int × List Int)} {i : Nat} (h : i < l.length) : (l.flatMap ruleC)[i * 2 + 1]? = some (ints l[i].2) := by
  have := rules_drop h
  have h2 := congrArg (·[1]?) this
  simpa using h2
theorem ruleC_setL {l : List (List Int × List Int)} {i : Nat} (h : i < l.length) (a : List Int) : (l.flatMap ruleC).set (i * 2) (ints a) = (l.set i (a, l[i].2)).flatMap ruleC := by
  induction l generalizing i with
  | nil => simp at h
  | cons r l ih =>
    cases i with
    | zero => rfl
    | succ i =>
      have hi : i < l.length := by simpa using h
      have := ih hi
      rw [show (i + 1) * 2 = i * 2 + 1 + 1 by omega]
      show ints r.1 :: ints r.2 :: (l.flatMap ruleC).set (i * 2) (ints a) = ints r.1 :: ints r.2 :: (l.set i (a, l[i].2)).flatMap ruleC
      rw [this]
theorem ruleC_setR {l : List (List Int × List Int)} {i : Nat} (h : i < l.length) (b : List Int) : (l.flatMap ruleC).set (i * 2 + 1) (ints b) = (l.set i (l[i].1, b)).flatMap ruleC := by
  induction l generalizing i with
  | nil => simp at h
  | cons r l ih =>
    cases i with
    | zero => rfl
    | succ i =>
      have hi : i < l.length := by simpa using h
      have := ih hi
      rw [show (i + 1) * 2 + 1 = i * 2 + 1 + 1 + 1 by omega]
      show ints r.1 :: ints r.2 :: (l.flatMap ruleC).set (i * 2 + 1) (ints b) = ints r.1 :: ints r.2 :: (l.set i (l[i].1, b)).flatMap ruleC
      rw [this]
theorem pick_uL {l : List (List Int × List Int)} {n : Int} {i : Nat} (hn : n = i) (hi : i < l.length) : pickN 1 ((l.flatMap ruleC).drop (n.toNat * 2 + 0)) = some [ints l[i].1] := by
  subst hn
  rw [Int.toNat_natCast, Nat.add_zero, rules_drop hi]
  rfl
theorem pick_uR {l : List (List Int × List Int)} {n : Int} {i : Nat} (hn : n = i) (hi : i < l.length) : pickN 1 ((l.flatMap ruleC).drop (n.toNat * 2 + 1)) = some [ints l[i].2] := by
  subst hn
  rw [Int.toNat_natCast, ← List.drop_drop, rules_drop hi]
  rfl
theorem getC_uL {sz n : Nat} {rs : List Cell} {l : List (List Int × List Int)} {j i k : Nat} (h0 : rs[j]? = some (.sl false sz n (l.flatMap ruleC))) (hn : k = i * 2) (hi : i < l.length) : getC rs j (some k) = some (ints l[i].1) := by
  subst hn
  simp only [getC, h0]
  exact ruleC_getL hi
theorem getC_uR {sz n : Nat} {rs : List Cell} {l : List (List Int × List Int)} {j i k : Nat} (h0 : rs[j]? = some (.sl false sz n (l.flatMap ruleC))) (hn : k = i * 2 + 1) (hi : i < l.length) : getC rs j (some k) = some (ints l[i].2) := by
  subst hn
  simp only [getC, h0]
  exact ruleC_getR hi
theorem setC_uL {sz n : Nat} {rs : List Cell} {l : List (List Int × List Int)} {j i k : Nat} {v : List Int} {y : Cell} (h0 : rs[j]? = some (.sl false sz n (l.flatMap ruleC))) (hn : k = i * 2) (hi : i < l.length) (hy : y = ints v) : setC rs j y (some k) = rs.set j (.sl false sz n ((l.set i (v, l[i].2)).flatMap ruleC)) := by
  subst hn hy
  simp only [setC, h0]
  rw [ruleC_setL hi]
theorem setC_uR {sz n : Nat} {rs : List Cell} {l : List (List Int × List Int)} {j i k : Nat} {v : List Int} {y : Cell} (h0 : rs[j]? = some (.sl false sz n (l.flatMap ruleC))) (hn : k = i * 2 + 1) (hi : i < l.length) (hy : y = ints v) : setC rs j y (some k) = rs.set j (.sl false sz n ((l.set i (l[i].1, v)).flatMap ruleC)) := by
  subst hn hy
  simp only [setC, h0]
  rw [ruleC_setR hi]
theorem getC_lentU {sz n : Nat} {rs cs : List Cell} {j k : Nat} {y : Cell} (h0 : rs[j]? = some (.sl false sz n cs)) (hi : k < cs.length) : getC (setC rs j y (some k)) j (some k) = some y := by
  have hj := (List.getElem?_eq_some_iff.1 h0).1
  simp only [setC, h0, getC, List.getElem?_set_self hj]
  rw [List.getElem?_set_self hi]
theorem optG {o : Option Cell} {x : Cell} {p : Cell → Prop} {q : Prop} (h : o = some x) (hp : p x) : optP o p q := by
  subst h
  exact .s hp
set_option maxHeartbeats 4000000 in
set_option maxRecDepth 100000 in
theorem markRules_ret (rs : List (List Int × List Int)) (m : Int) (hl : rs.length < 2 ^ 29) (ht : totR rs < 2 ^ 29) (h0 : 0 ≤ m) (hm : m < 2 ^ 30) : Ret Tryd.prog G0 51 [⟨.mu, .one (rulesC rs)⟩, ⟨.ro, .one (i64 m)⟩] ⟨.one (i64 (m + totR rs)), [.one (rulesC (markU m rs))]⟩ := by
  unfold rulesC
  (refine ret_of_den (E := en 27 [] (fun _ => [(5, 0), (1, 0), (0, 0), (27, 2)]) (fun _ => [])) tt_ok mixed Tryd.func51 rfl rfl rfl rfl ?_; refine ⟨by simp, ?_⟩)
  repeat' (first | (refine opt_some (getC_rows rfl rfl (by omega)) ?_; conv => whnf) | (refine opt_some (by dsimp only; exact getC_lent rfl rfl (by omega)) ?_; conv => whnf) | (refine opt_some rfl ?_; conv => whnf) | (refine ⟨_, (by simp only [nf, nl, nm, en, ints, setC_setC, Nat.reduceAdd, Nat.reduceMul]; exact rfl), ?_⟩; conv => whnf) | (refine ⟨_, pick_at rfl (by first | omega | (simp only [plain_i64, plain_ints, plain_nil, all_ints]; done) | (dsimp only; omega) | exact Nat.le_of_ble_eq_true rfl | rfl | (simp; done) | (simp only [htf] at *; first | omega | (simp; omega))), ?_⟩; conv => whnf) | (refine ⟨_, rfl, ?_⟩; conv => whnf) | (first | refine iteP_true rfl ?_ | refine iteP_false rfl ?_ | refine iteP_true ‹_› ?_ | refine iteP_false ‹_› ?_; conv => whnf) | (refine And.intro (by kernel_rfl : indep _ _ = true) ?_; conv => whnf) | (refine And.intro (by rfl : List.all _ _ = true) ?_; conv => whnf) | (refine And.intro (by first | omega | (simp only [plain_i64, plain_ints, plain_nil, all_ints]; done) | (dsimp only; omega) | exact Nat.le_of_ble_eq_true rfl | rfl | (simp; done) | (simp only [htf] at *; first | omega | (simp; omega))) ?_; conv => whnf) | (refine iteP_intro (fun hb => ?_) (fun hb => ?_) <;> (conv => whnf)))
  refine ⟨fun k vs => ∃ i : Nat, i ≤ rs.length ∧ vs = [.one (i64 i), .one (i64 (m + (totR (rs.take i) : Nat))), .one (.sl false 2 rs.length ((mkU m rs i).flatMap ruleC)), .dead] ∧ k = rs.length - i, rfl, ⟨_, 0, by omega, ?_, rfl⟩, ?_⟩
  · rw [mkU_zero, List.take_zero]
    simp only [totR]
    rw [show m + ((0 : Nat) : Int) = m by omega]
    rfl
  rintro k vs ⟨i, hi, rfl, rfl⟩
  have hml := mkU_length (m := m) hi
  repeat (first | (refine opt_some (getC_rows rfl rfl (by omega)) ?_; conv => whnf) | (refine opt_some (by dsimp only; exact getC_lent rfl rfl (by omega)) ?_; conv => whnf) | (refine opt_some rfl ?_; conv => whnf) | (refine ⟨_, (by simp only [nf, nl, nm, en, ints, setC_setC, Nat.reduceAdd, Nat.reduceMul]; exact rfl), ?_⟩; conv => whnf) | (refine ⟨_, pick_at rfl (by first | omega | (simp only [plain_i64, plain_ints, plain_nil, all_ints]; done) | (dsimp only; omega) | exact Nat.le_of_ble_eq_true rfl | rfl | (simp; done) | (simp only [htf] at *; first | omega | (simp; omega))), ?_⟩; conv => whnf) | (refine ⟨_, rfl, ?_⟩; conv => whnf) | (first | refine iteP_true rfl ?_ | refine iteP_false rfl ?_ | refine iteP_true ‹_› ?_ | refine iteP_false ‹_› ?_; conv => whnf) | (refine And.intro (by kernel_rfl : indep _ _ = true) ?_; conv => whnf) | (refine And.intro (by rfl : List.all _ _ = true) ?_; conv => whnf) | (refine And.intro (by first | omega | (simp only [plain_i64, plain_ints, plain_nil, all_ints]; done) | (dsimp only; omega) | exact Nat.le_of_ble_eq_true rfl | rfl | (simp; done) | (simp only [htf] at *; first | omega | (simp; omega))) ?_; conv => whnf))
  refine iteP_intro (fun hb => ?_) (fun hb => ?_) <;> (conv => whnf)
  · have hi' := ltT hb
    have hg := mkU_get (m := m) hi' (by omega)
    have hmg := markU_get (m := m) hi'
    have hts := totR_take_succ hi'
    have htl := totR_take_le rs (i + 1)
    have hrl := rules_length (mkU m rs i)
    repeat (first | (refine opt_some (getC_rows rfl rfl (by omega)) ?_; conv => whnf) | (refine opt_some (by dsimp only; exact getC_lent rfl rfl (by omega)) ?_; conv => whnf) | (refine opt_some rfl ?_; conv => whnf) | (refine ⟨_, (by simp only [nf, nl, nm, en, ints, setC_setC, Nat.reduceAdd, Nat.reduceMul]; exact rfl), ?_⟩; conv => whnf) | (refine ⟨_, pick_at rfl (by first | omega | (simp only [plain_i64, plain_ints, plain_nil, all_ints]; done) | (dsimp only; omega) | exact Nat.le_of_ble_eq_true rfl | rfl | (simp; done) | (simp only [htf] at *; first | omega | (simp; omega))), ?_⟩; conv => whnf) | (refine ⟨_, rfl, ?_⟩; conv => whnf) | (first | refine iteP_true rfl ?_ | refine iteP_false rfl ?_ | refine iteP_true ‹_› ?_ | refine iteP_false ‹_› ?_; conv => whnf) | (refine And.intro (by kernel_rfl : indep _ _ = true) ?_; conv => whnf) | (refine And.intro (by rfl : List.all _ _ = true) ?_; conv => whnf) | (refine And.intro (by first | omega | (simp only [plain_i64, plain_ints, plain_nil, all_ints]; done) | (dsimp only; omega) | exact Nat.le_of_ble_eq_true rfl | rfl | (simp; done) | (simp only [htf] at *; first | omega | (simp; omega))) ?_; conv => whnf))
    refine ⟨_, pick_uL rfl (by omega), ?_⟩
    conv => whnf
    repeat (first | (refine opt_some (getC_rows rfl rfl (by omega)) ?_; conv => whnf) | (refine opt_some (by dsimp only; exact getC_lent rfl rfl (by omega)) ?_; conv => whnf) | (refine opt_some rfl ?_; conv => whnf) | (refine ⟨_, (by simp only [nf, nl, nm, en, ints, setC_setC, Nat.reduceAdd, Nat.reduceMul]; exact rfl), ?_⟩; conv => whnf) | (refine ⟨_, pick_at rfl (by first | omega | (simp only [plain_i64, plain_ints, plain_nil, all_ints]; done) | (dsimp only; omega) | exact Nat.le_of_ble_eq_true rfl | rfl | (simp; done) | (simp only [htf] at *; first | omega | (simp; omega))), ?_⟩; conv => whnf) | (refine ⟨_, rfl, ?_⟩; conv => whnf) | (first | refine iteP_true rfl ?_ | refine iteP_false rfl ?_ | refine iteP_true ‹_› ?_ | refine iteP_false ‹_› ?_; conv => whnf) | (refine And.intro (by kernel_rfl : indep _ _ = true) ?_; conv => whnf) | (refine And.intro (by rfl : List.all _ _ = true) ?_; conv => whnf) | (refine And.intro (by first | omega | (simp only [plain_i64, plain_ints, plain_nil, all_ints]; done) | (dsimp only; omega) | exact Nat.le_of_ble_eq_true rfl | rfl | (simp; done) | (simp only [htf] at *; first | omega | (simp; omega))) ?_; conv => whnf))
    refine optG (x := ints (mkU m rs i)[i].1) (getC_uL (sz := 2) (n := rs.length) (rs := [Cell.sl false 2 rs.length ((mkU m rs i).flatMap ruleC)]) (j := 0) (l := mkU m rs i) (i := i) rfl rfl (by omega)) ?_
    conv => whnf
    repeat (first | (refine opt_some (getC_rows rfl rfl (by omega)) ?_; conv => whnf) | (refine opt_some (by dsimp only; exact getC_lent rfl rfl (by omega)) ?_; conv => whnf) | (refine opt_some rfl ?_; conv => whnf) | (refine ⟨_, (by simp only [nf, nl, nm, en, ints, setC_setC, Nat.reduceAdd, Nat.reduceMul, hg]; exact rfl), ?_⟩; conv => whnf) | (refine ⟨_, pick_at rfl (by first | omega | (simp only [plain_i64, plain_ints, plain_nil, all_ints]; done) | (dsimp only; omega) | exact Nat.le_of_ble_eq_true rfl | rfl | (simp; done) | (simp only [htf] at *; first | omega | (simp; omega))), ?_⟩; conv => whnf) | (refine ⟨_, rfl, ?_⟩; conv => whnf) | (first | refine iteP_true rfl ?_ | refine iteP_false rfl ?_ | refine iteP_true ‹_› ?_ | refine iteP_false ‹_› ?_; conv => whnf) | (refine And.intro (by kernel_rfl : indep _ _ = true) ?_; conv => whnf) | (refine And.intro (by rfl : List.all _ _ = true) ?_; conv => whnf) | (refine And.intro (by first | omega | (simp only [plain_i64, plain_ints, plain_nil, all_ints]; done) | (dsimp only; omega) | exact Nat.le_of_ble_eq_true rfl | rfl | (simp; done) | (simp only [htf] at *; first | omega | (simp; omega))) ?_; conv => whnf))
    (refine ⟨_, mark_ret _ (m + (totR (rs.take i) : Nat)) (by rw [hg]; omega) (by omega) (by omega), ?_⟩; conv => whnf)
    refine opt_some (by dsimp only; exact getC_lentU rfl (by rw [hrl, hml]; show i * 2 + 0 < _; omega)) ?_
    conv => whnf
    have hs1 : ∀ k : Nat, k = i * 2 → setC [Cell.sl false 2 rs.length ((mkU m rs i).flatMap ruleC)] 0 (Cell.sl false 1 rs[i].1.length ((marks (m + (totR (rs.take i) : Nat)) rs[i].1.length).map i64)) (some k) = [Cell.sl false 2 rs.length (((mkU m rs i).set i (marks (m + (totR (rs.take i) : Nat)) rs[i].1.length, rs[i].2)).flatMap ruleC)] := fun k hk => by
      have := setC_uL (sz := 2) (n := rs.length) (rs := [Cell.sl false 2 rs.length ((mkU m rs i).flatMap ruleC)]) (j := 0) (l := mkU m rs i) (i := i) (v := marks (m + (totR (rs.take i) : Nat)) rs[i].1.length) (y := Cell.sl false 1 rs[i].1.length ((marks (m + (totR (rs.take i) : Nat)) rs[i].1.length).map i64)) rfl hk (by omega) (by simp [ints, marks_length])
      rw [this, hg]
      rfl
    refine ⟨_, by simp only [nf, nl, nm, en, ints, setC_setC, Nat.reduceAdd, Nat.reduceMul]; rw [hg, hs1]; rfl, ?_⟩
    conv => whnf
    have hw1 : IntKind.i64.wrap (m + ((totR (rs.take i) : Nat) : Int) + (rs[i].1.length : Int)) = m + ((totR (rs.take i) : Nat) : Int) + (rs[i].1.length : Int) := wrap_i64 (by omega) (by omega)
    obtain ⟨L, hL⟩ : ∃ L, (mkU m rs i).set i (marks (m + (totR (rs.take i) : Nat)) rs[i].1.length, rs[i].2) = L := ⟨_, rfl⟩
    have hl2 : L.length = rs.length := by rw [← hL, List.length_set, hml]
    have hLi : i < L.length := by omega
    have hg0 : L[i] = (marks (m + (totR (rs.take i) : Nat)) rs[i].1.length, rs[i].2) := by
      subst hL
      rw [List.getElem_set_self]
    have hg2 : L[i].2 = rs[i].2 := by rw [hg0]
    have hg1 : L[i].1 = marks (m + (totR (rs.take i) : Nat)) rs[i].1.length := by rw [hg0]
    have hss : L.set i (marks (m + (totR (rs.take i) : Nat)) rs[i].1.length, marks (m + (totR (rs.take i) : Nat) + rs[i].1.length) rs[i].2.length) = mkU m rs (i + 1) := by rw [← hL, List.set_set, mkU_set hi' hmg]
    rw [hL]
    have hrl2 := rules_length L
    repeat (first | (refine opt_some (getC_rows rfl rfl (by omega)) ?_; conv => whnf) | (refine opt_some (by dsimp only; exact getC_lent rfl rfl (by omega)) ?_; conv => whnf) | (refine opt_some rfl ?_; conv => whnf) | (refine ⟨_, (by simp only [nf, nl, nm, en, ints, setC_setC, Nat.reduceAdd, Nat.reduceMul]; exact rfl), ?_⟩; conv => whnf) | (refine ⟨_, pick_at rfl (by first | omega | (simp only [plain_i64, plain_ints, plain_nil, all_ints]; done) | (dsimp only; omega) | exact Nat.le_of_ble_eq_true rfl | rfl | (simp; done) | (simp only [htf] at *; first | omega | (simp; omega))), ?_⟩; conv => whnf) | (refine ⟨_, rfl, ?_⟩; conv => whnf) | (first | refine iteP_true rfl ?_ | refine iteP_false rfl ?_ | refine iteP_true ‹_› ?_ | refine iteP_false ‹_› ?_; conv => whnf) | (refine And.intro (by kernel_rfl : indep _ _ = true) ?_; conv => whnf) | (refine And.intro (by rfl : List.all _ _ = true) ?_; conv => whnf) | (refine And.intro (by first | omega | (simp only [plain_i64, plain_ints, plain_nil, all_ints]; done) | (dsimp only; omega) | exact Nat.le_of_ble_eq_true rfl | rfl | (simp; done) | (simp only [htf] at *; first | omega | (simp; omega))) ?_; conv => whnf))
    refine ⟨_, pick_uR rfl (by omega), ?_⟩
    conv => whnf
    repeat (first | (refine opt_some (getC_rows rfl rfl (by omega)) ?_; conv => whnf) | (refine opt_some (by dsimp only; exact getC_lent rfl rfl (by omega)) ?_; conv => whnf) | (refine opt_some rfl ?_; conv => whnf) | (refine ⟨_, (by simp only [nf, nl, nm, en, ints, setC_setC, Nat.reduceAdd, Nat.reduceMul]; exact rfl), ?_⟩; conv => whnf) | (refine ⟨_, pick_at rfl (by first | omega | (simp only [plain_i64, plain_ints, plain_nil, all_ints]; done) | (dsimp only; omega) | exact Nat.le_of_ble_eq_true rfl | rfl | (simp; done) | (simp only [htf] at *; first | omega | (simp; omega))), ?_⟩; conv => whnf) | (refine ⟨_, rfl, ?_⟩; conv => whnf) | (first | refine iteP_true rfl ?_ | refine iteP_false rfl ?_ | refine iteP_true ‹_› ?_ | refine iteP_false ‹_› ?_; conv => whnf) | (refine And.intro (by kernel_rfl : indep _ _ = true) ?_; conv => whnf) | (refine And.intro (by rfl : List.all _ _ = true) ?_; conv => whnf) | (refine And.intro (by first | omega | (simp only [plain_i64, plain_ints, plain_nil, all_ints]; done) | (dsimp only; omega) | exact Nat.le_of_ble_eq_true rfl | rfl | (simp; done) | (simp only [htf] at *; first | omega | (simp; omega))) ?_; conv => whnf))
    refine optG (x := ints (L[i]'(by omega)).2) (getC_uR (sz := 2) (n := rs.length) (rs := [Cell.sl false 2 rs.length (L.flatMap ruleC)]) (j := 0) (l := L) (i := i) rfl rfl (by omega)) ?_
    conv => whnf
    repeat (first | (refine opt_some (getC_rows rfl rfl (by omega)) ?_; conv => whnf) | (refine opt_some (by dsimp only; exact getC_lent rfl rfl (by omega)) ?_; conv => whnf) | (refine opt_some rfl ?_; conv => whnf) | (refine ⟨_, (by simp only [nf, nl, nm, en, ints, setC_setC, Nat.reduceAdd, Nat.reduceMul, hg2]; exact rfl), ?_⟩; conv => whnf) | (refine ⟨_, pick_at rfl (by first | omega | (simp only [plain_i64, plain_ints, plain_nil, all_ints]; done) | (dsimp only; omega) | exact Nat.le_of_ble_eq_true rfl | rfl | (simp; done) | (simp only [htf] at *; first | omega | (simp; omega))), ?_⟩; conv => whnf) | (refine ⟨_, rfl, ?_⟩; conv => whnf) | (first | refine iteP_true rfl ?_ | refine iteP_false rfl ?_ | refine iteP_true ‹_› ?_ | refine iteP_false ‹_› ?_; conv => whnf) | (refine And.intro (by kernel_rfl : indep _ _ = true) ?_; conv => whnf) | (refine And.intro (by rfl : List.all _ _ = true) ?_; conv => whnf) | (refine And.intro (by first | omega | (simp only [plain_i64, plain_ints, plain_nil, all_ints]; done) | (dsimp only; omega) | exact Nat.le_of_ble_eq_true rfl | rfl | (simp; done) | (simp only [htf] at *; first | omega | (simp; omega))) ?_; conv => whnf))
    (refine ⟨_, mark_ret _ (m + (totR (rs.take i) : Nat) + rs[i].1.length) (by rw [hg2]; omega) (by omega) (by omega), ?_⟩; conv => whnf)
    refine opt_some (by dsimp only; exact getC_lentU rfl (by rw [hrl2, hl2]; show i * 2 + 1 < _; omega)) ?_
    conv => whnf
    have hs2 : ∀ k : Nat, k = i * 2 + 1 → setC [Cell.sl false 2 rs.length (L.flatMap ruleC)] 0 (Cell.sl false 1 rs[i].2.length ((marks (m + (totR (rs.take i) : Nat) + rs[i].1.length) rs[i].2.length).map i64)) (some k) = [Cell.sl false 2 rs.length ((mkU m rs (i + 1)).flatMap ruleC)] := fun k hk => by
      have := setC_uR (sz := 2) (n := rs.length) (rs := [Cell.sl false 2 rs.length (L.flatMap ruleC)]) (j := 0) (l := L) (i := i) (v := marks (m + (totR (rs.take i) : Nat) + rs[i].1.length) rs[i].2.length) (y := Cell.sl false 1 rs[i].2.length ((marks (m + (totR (rs.take i) : Nat) + rs[i].1.length) rs[i].2.length).map i64)) rfl hk (by omega) (by simp [ints, marks_length])
      rw [this, hg1, hss]
      rfl
    refine ⟨_, by simp only [nf, nl, nm, en, ints, setC_setC, Nat.reduceAdd, Nat.reduceMul]; rw [hg2, hs2]; rfl, ?_⟩
    conv => whnf
    repeat' (first | (refine opt_some (getC_rows rfl rfl (by omega)) ?_; conv => whnf) | (refine opt_some (by dsimp only; exact getC_lent rfl rfl (by omega)) ?_; conv => whnf) | (refine opt_some rfl ?_; conv => whnf) | (refine ⟨_, (by simp only [nf, nl, nm, en, ints, setC_setC, Nat.reduceAdd, Nat.reduceMul]; exact rfl), ?_⟩; conv => whnf) | (refine ⟨_, pick_at rfl (by first | omega | (simp only [plain_i64, plain_ints, plain_nil, all_ints]; done) | (dsimp only; omega) | exact Nat.le_of_ble_eq_true rfl | rfl | (simp; done) | (simp only [htf] at *; first | omega | (simp; omega))), ?_⟩; conv => whnf) | (refine ⟨_, rfl, ?_⟩; conv => whnf) | (first | refine iteP_true rfl ?_ | refine iteP_false rfl ?_ | refine iteP_true ‹_› ?_ | refine iteP_false ‹_› ?_; conv => whnf) | (refine And.intro (by kernel_rfl : indep _ _ = true) ?_; conv => whnf) | (refine And.intro (by rfl : List.all _ _ = true) ?_; conv => whnf) | (refine And.intro (by first | omega | (simp only [plain_i64, plain_ints, plain_nil, all_ints]; done) | (dsimp only; omega) | exact Nat.le_of_ble_eq_true rfl | rfl | (simp; done) | (simp only [htf] at *; first | omega | (simp; omega))) ?_; conv => whnf) | (refine iteP_intro (fun hb => ?_) (fun hb => ?_) <;> (conv => whnf)))
    refine ⟨_, ?_, i + 1, hi', ?_, rfl⟩
    · omega
    · rw [wrap_succ (by omega), hts, show m + ((totR (rs.take i) + (rs[i].1.length + rs[i].2.length) : Nat) : Int) = m + (totR (rs.take i) : Nat) + (rs[i].1.length : Nat) + (rs[i].2.length : Nat) by omega]
      rfl
  · obtain rfl : i = rs.length := Nat.le_antisymm hi (ltF hb)
    rw [List.take_length, mkU_all]
    repeat' (first | (refine opt_some (getC_rows rfl rfl (by omega)) ?_; conv => whnf) | (refine opt_some (by dsimp only; exact getC_lent rfl rfl (by omega)) ?_; conv => whnf) | (refine opt_some rfl ?_; conv => whnf) | (refine ⟨_, (by simp only [nf, nl, nm, en, ints, setC_setC, Nat.reduceAdd, Nat.reduceMul]; exact rfl), ?_⟩; conv => whnf) | (refine ⟨_, pick_at rfl (by first | omega | (simp only [plain_i64, plain_ints, plain_nil, all_ints]; done) | (dsimp only; omega) | exact Nat.le_of_ble_eq_true rfl | rfl | (simp; done) | (simp only [htf] at *; first | omega | (simp; omega))), ?_⟩; conv => whnf) | (refine ⟨_, rfl, ?_⟩; conv => whnf) | (first | refine iteP_true rfl ?_ | refine iteP_false rfl ?_ | refine iteP_true ‹_› ?_ | refine iteP_false ‹_› ?_; conv => whnf) | (refine And.intro (by kernel_rfl : indep _ _ = true) ?_; conv => whnf) | (refine And.intro (by rfl : List.all _ _ = true) ?_; conv => whnf) | (refine And.intro (by first | omega | (simp only [plain_i64, plain_ints, plain_nil, all_ints]; done) | (dsimp only; omega) | exact Nat.le_of_ble_eq_true rfl | rfl | (simp; done) | (simp only [htf] at *; first | omega | (simp; omega))) ?_; conv => whnf) | (refine iteP_intro (fun hb => ?_) (fun hb => ?_) <;> (conv => whnf)))
    simp [resSV, isAggS, svLike, markU_length]
def szU (k : Int) (a b : Nat) : Int := if szI k a < 0 then -1 else szI (szI k a) b
theorem szU_nn {k : Int} {a b : Nat} (h : ¬ szU k a b < 0) : (a : Int) + b ≤ k ∧ szU k a b = k - a - b := by
  unfold szU at h ⊢
  split at h
  · omega
  · rename_i h1
    rw [if_neg h1]
    have h2 := szI_nn h1
    have h3 := szI_nn h
    omega
theorem szRs_tot : ∀ {rs : List (List Int × List Int)} {k : Int}, ¬ szRs k rs < 0 → (totR rs : Int) ≤ k ∧ szRs k rs = k - totR rs
  | [], k, h => by simp only [szRs, totR] at h ⊢; omega
  | r0 :: rs, k, h => by
    unfold szRs at h ⊢
    split at h
    · omega
    · rename_i h1
      rw [if_neg h1]
      have h2 : szR k r0 = szU k r0.1.length r0.2.length := rfl
      rw [h2] at h h1 ⊢
      have h4 := szU_nn h1
      have h3 := szRs_tot h
      simp only [totR]
      omega
def szRulesK (k : Int) (rs : List (List Int × List Int)) : Int := if k - (rs.length : Int) < 0 then -1 else szRs (k - rs.length) rs
theorem szRules_nn {k : Int} {rs : List (List Int × List Int)} (h : ¬ szRulesK k rs < 0) : (rs.length : Int) + totR rs ≤ k ∧ szRulesK k rs = k - rs.length - totR rs := by
  unfold szRulesK at h ⊢
  split at h
  · omega
  · rename_i h1
    rw [if_neg h1]
    have := szRs_tot h
    omega
set_option maxHeartbeats 4000000 in
set_option maxRecDepth 100000 in
theorem szRedex_ret (n : Int) (a b : List Int) (k : Int) (h0 : 0 ≤ k) (hk : k ≤ 2 ^ 20) (h1 : a.length < 2 ^ 62) (h2 : b.length < 2 ^ 62) : Ret Tryd.prog G0 44 [⟨.ro, .agg [i64 n, ints a, ints b]⟩, ⟨.ro, .one (i64 k)⟩] ⟨.one (i64 (szU k a.length b.length)), []⟩ := by
  (refine ret_of_den (E := en 18 [] (fun _ => []) (fun _ => [])) tt_ok mixed Tryd.func44 rfl rfl rfl rfl ?_; refine ⟨by simp, ?_⟩)
  repeat' (first | (refine opt_some (getC_rows rfl rfl (by omega)) ?_; conv => whnf) | (refine opt_some (by dsimp only; exact getC_lent rfl rfl (by omega)) ?_; conv => whnf) | (refine opt_some rfl ?_; conv => whnf) | (refine ⟨_, (by simp only [nf, nl, nm, en, ints, setC_setC, Nat.reduceAdd, Nat.reduceMul]; exact rfl), ?_⟩; conv => whnf) | (refine ⟨_, pick_at rfl (by first | omega | (simp only [plain_i64, plain_ints, plain_nil, all_ints]; done) | (dsimp only; omega) | exact Nat.le_of_ble_eq_true rfl | rfl | (simp; done) | (simp only [htf] at *; first | omega | (simp; omega))), ?_⟩; conv => whnf) | (refine ⟨_, rfl, ?_⟩; conv => whnf) | (first | refine iteP_true rfl ?_ | refine iteP_false rfl ?_ | refine iteP_true ‹_› ?_ | refine iteP_false ‹_› ?_; conv => whnf) | (refine And.intro (by kernel_rfl : indep _ _ = true) ?_; conv => whnf) | (refine And.intro (by rfl : List.all _ _ = true) ?_; conv => whnf) | (refine And.intro (by first | omega | (simp only [plain_i64, plain_ints, plain_nil, all_ints]; done) | (dsimp only; omega) | exact Nat.le_of_ble_eq_true rfl | rfl | (simp; done) | (simp only [htf] at *; first | omega | (simp; omega))) ?_; conv => whnf) | (refine iteP_intro (fun hb => ?_) (fun hb => ?_) <;> (conv => whnf)))
  (refine ⟨_, szInt_ret a k h0 hk h1, ?_⟩; conv => whnf)
  repeat' (first | (refine opt_some (getC_rows rfl rfl (by omega)) ?_; conv => whnf) | (refine opt_some (by dsimp only; exact getC_lent rfl rfl (by omega)) ?_; conv => whnf) | (refine opt_some rfl ?_; conv => whnf) | (refine ⟨_, (by simp only [nf, nl, nm, en, ints, setC_setC, Nat.reduceAdd, Nat.reduceMul]; exact rfl), ?_⟩; conv => whnf) | (refine ⟨_, pick_at rfl (by first | omega | (simp only [plain_i64, plain_ints, plain_nil, all_ints]; done) | (dsimp only; omega) | exact Nat.le_of_ble_eq_true rfl | rfl | (simp; done) | (simp only [htf] at *; first | omega | (simp; omega))), ?_⟩; conv => whnf) | (refine ⟨_, rfl, ?_⟩; conv => whnf) | (first | refine iteP_true rfl ?_ | refine iteP_false rfl ?_ | refine iteP_true ‹_› ?_ | refine iteP_false ‹_› ?_; conv => whnf) | (refine And.intro (by kernel_rfl : indep _ _ = true) ?_; conv => whnf) | (refine And.intro (by rfl : List.all _ _ = true) ?_; conv => whnf) | (refine And.intro (by first | omega | (simp only [plain_i64, plain_ints, plain_nil, all_ints]; done) | (dsimp only; omega) | exact Nat.le_of_ble_eq_true rfl | rfl | (simp; done) | (simp only [htf] at *; first | omega | (simp; omega))) ?_; conv => whnf) | (refine iteP_intro (fun hb => ?_) (fun hb => ?_) <;> (conv => whnf)))
  · refine endI ?_
    unfold szU
    rw [if_pos (leT hb)]
  · have hn := leF hb
    have hle : szI k a.length ≤ k := by have := szI_nn hn; omega
    (refine ⟨_, szInt_ret b _ (by omega) (by omega) h2, ?_⟩; conv => whnf)
    repeat' (first | (refine opt_some (getC_rows rfl rfl (by omega)) ?_; conv => whnf) | (refine opt_some (by dsimp only; exact getC_lent rfl rfl (by omega)) ?_; conv => whnf) | (refine opt_some rfl ?_; conv => whnf) | (refine ⟨_, (by simp only [nf, nl, nm, en, ints, setC_setC, Nat.reduceAdd, Nat.reduceMul]; exact rfl), ?_⟩; conv => whnf) | (refine ⟨_, pick_at rfl (by first | omega | (simp only [plain_i64, plain_ints, plain_nil, all_ints]; done) | (dsimp only; omega) | exact Nat.le_of_ble_eq_true rfl | rfl | (simp; done) | (simp only [htf] at *; first | omega | (simp; omega))), ?_⟩; conv => whnf) | (refine ⟨_, rfl, ?_⟩; conv => whnf) | (first | refine iteP_true rfl ?_ | refine iteP_false rfl ?_ | refine iteP_true ‹_› ?_ | refine iteP_false ‹_› ?_; conv => whnf) | (refine And.intro (by kernel_rfl : indep _ _ = true) ?_; conv => whnf) | (refine And.intro (by rfl : List.all _ _ = true) ?_; conv => whnf) | (refine And.intro (by first | omega | (simp only [plain_i64, plain_ints, plain_nil, all_ints]; done) | (dsimp only; omega) | exact Nat.le_of_ble_eq_true rfl | rfl | (simp; done) | (simp only [htf] at *; first | omega | (simp; omega))) ?_; conv => whnf) | (refine iteP_intro (fun hb => ?_) (fun hb => ?_) <;> (conv => whnf)))
    · refine endI ?_
      have hn2 := leT hb
      unfold szU
      rw [if_neg hn]
      generalize szI k a.length = c at hn2 ⊢
      unfold szI at hn2 ⊢
      split at hn2
      · rename_i h3; rw [if_pos h3]
      · rename_i h3; exact absurd hn2 h3
    · refine endI ?_
      unfold szU
      rw [if_neg hn]
set_option maxHeartbeats 4000000 in
set_option maxRecDepth 100000 in
theorem toRedex_ret (n : Int) (a b : List Int) (h1 : a.length ≤ 2 ^ 20) (h2 : b.length ≤ 2 ^ 20) : Ret Tryd.prog G0 47 [⟨.ro, .agg [i64 n, ints a, ints b]⟩] ⟨.agg [i64 n, ints a, ints b], []⟩ := by
  (refine ret_of_den (E := en 16 [] (fun _ => []) (fun _ => [])) tt_ok mixed Tryd.func47 rfl rfl rfl rfl ?_; refine ⟨by simp, ?_⟩)
  repeat' (first | (refine opt_some (getC_rows rfl rfl (by omega)) ?_; conv => whnf) | (refine opt_some (by dsimp only; exact getC_lent rfl rfl (by omega)) ?_; conv => whnf) | (refine opt_some rfl ?_; conv => whnf) | (refine ⟨_, (by simp only [nf, nl, nm, en, ints, setC_setC, Nat.reduceAdd, Nat.reduceMul]; exact rfl), ?_⟩; conv => whnf) | (refine ⟨_, pick_at rfl (by first | omega | (simp only [plain_i64, plain_ints, plain_nil, all_ints]; done) | (dsimp only; omega) | exact Nat.le_of_ble_eq_true rfl | rfl | (simp; done) | (simp only [htf] at *; first | omega | (simp; omega))), ?_⟩; conv => whnf) | (refine ⟨_, rfl, ?_⟩; conv => whnf) | (first | refine iteP_true rfl ?_ | refine iteP_false rfl ?_ | refine iteP_true ‹_› ?_ | refine iteP_false ‹_› ?_; conv => whnf) | (refine And.intro (by kernel_rfl : indep _ _ = true) ?_; conv => whnf) | (refine And.intro (by rfl : List.all _ _ = true) ?_; conv => whnf) | (refine And.intro (by first | omega | (simp only [plain_i64, plain_ints, plain_nil, all_ints]; done) | (dsimp only; omega) | exact Nat.le_of_ble_eq_true rfl | rfl | (simp; done) | (simp only [htf] at *; first | omega | (simp; omega))) ?_; conv => whnf) | (refine iteP_intro (fun hb => ?_) (fun hb => ?_) <;> (conv => whnf)))
  (refine ⟨_, toInt_ret a h1, ?_⟩; conv => whnf)
  repeat' (first | (refine opt_some (getC_rows rfl rfl (by omega)) ?_; conv => whnf) | (refine opt_some (by dsimp only; exact getC_lent rfl rfl (by omega)) ?_; conv => whnf) | (refine opt_some rfl ?_; conv => whnf) | (refine ⟨_, (by simp only [nf, nl, nm, en, ints, setC_setC, Nat.reduceAdd, Nat.reduceMul]; exact rfl), ?_⟩; conv => whnf) | (refine ⟨_, pick_at rfl (by first | omega | (simp only [plain_i64, plain_ints, plain_nil, all_ints]; done) | (dsimp only; omega) | exact Nat.le_of_ble_eq_true rfl | rfl | (simp; done) | (simp only [htf] at *; first | omega | (simp; omega))), ?_⟩; conv => whnf) | (refine ⟨_, rfl, ?_⟩; conv => whnf) | (first | refine iteP_true rfl ?_ | refine iteP_false rfl ?_ | refine iteP_true ‹_› ?_ | refine iteP_false ‹_› ?_; conv => whnf) | (refine And.intro (by kernel_rfl : indep _ _ = true) ?_; conv => whnf) | (refine And.intro (by rfl : List.all _ _ = true) ?_; conv => whnf) | (refine And.intro (by first | omega | (simp only [plain_i64, plain_ints, plain_nil, all_ints]; done) | (dsimp only; omega) | exact Nat.le_of_ble_eq_true rfl | rfl | (simp; done) | (simp only [htf] at *; first | omega | (simp; omega))) ?_; conv => whnf) | (refine iteP_intro (fun hb => ?_) (fun hb => ?_) <;> (conv => whnf)))
  (refine ⟨_, toInt_ret b h2, ?_⟩; conv => whnf)
  repeat' (first | (refine opt_some (getC_rows rfl rfl (by omega)) ?_; conv => whnf) | (refine opt_some (by dsimp only; exact getC_lent rfl rfl (by omega)) ?_; conv => whnf) | (refine opt_some rfl ?_; conv => whnf) | (refine ⟨_, (by simp only [nf, nl, nm, en, ints, setC_setC, Nat.reduceAdd, Nat.reduceMul]; exact rfl), ?_⟩; conv => whnf) | (refine ⟨_, pick_at rfl (by first | omega | (simp only [plain_i64, plain_ints, plain_nil, all_ints]; done) | (dsimp only; omega) | exact Nat.le_of_ble_eq_true rfl | rfl | (simp; done) | (simp only [htf] at *; first | omega | (simp; omega))), ?_⟩; conv => whnf) | (refine ⟨_, rfl, ?_⟩; conv => whnf) | (first | refine iteP_true rfl ?_ | refine iteP_false rfl ?_ | refine iteP_true ‹_› ?_ | refine iteP_false ‹_› ?_; conv => whnf) | (refine And.intro (by kernel_rfl : indep _ _ = true) ?_; conv => whnf) | (refine And.intro (by rfl : List.all _ _ = true) ?_; conv => whnf) | (refine And.intro (by first | omega | (simp only [plain_i64, plain_ints, plain_nil, all_ints]; done) | (dsimp only; omega) | exact Nat.le_of_ble_eq_true rfl | rfl | (simp; done) | (simp only [htf] at *; first | omega | (simp; omega))) ?_; conv => whnf) | (refine iteP_intro (fun hb => ?_) (fun hb => ?_) <;> (conv => whnf)))
  rfl
set_option maxHeartbeats 4000000 in
set_option maxRecDepth 100000 in
theorem eqRedex_ret (n : Int) (a b : List Int) (h1 : a.length < 2 ^ 62) (h2 : b.length < 2 ^ 62) : Ret Tryd.prog G0 50 [⟨.ro, .agg [i64 n, ints a, ints b]⟩, ⟨.ro, .agg [i64 n, ints a, ints b]⟩] ⟨.one (.c (.bool true)), []⟩ := by
  (refine ret_of_den (E := en 22 [] (fun _ => []) (fun _ => [])) tt_ok mixed Tryd.func50 rfl rfl rfl rfl ?_; refine ⟨by simp, ?_⟩)
  have e0 : (n != n) = false := by simp
  have e1 : decide (a = a) = true := by simp
  have e2 : decide (b = b) = true := by simp
  repeat' (first | (refine opt_some (getC_rows rfl rfl (by omega)) ?_; conv => whnf) | (refine opt_some (by dsimp only; exact getC_lent rfl rfl (by omega)) ?_; conv => whnf) | (refine opt_some rfl ?_; conv => whnf) | (refine ⟨_, (by simp only [nf, nl, nm, en, ints, setC_setC, Nat.reduceAdd, Nat.reduceMul]; exact rfl), ?_⟩; conv => whnf) | (refine ⟨_, pick_at rfl (by first | omega | (simp only [plain_i64, plain_ints, plain_nil, all_ints]; done) | (dsimp only; omega) | exact Nat.le_of_ble_eq_true rfl | rfl | (simp; done) | (simp only [htf] at *; first | omega | (simp; omega))), ?_⟩; conv => whnf) | (refine ⟨_, rfl, ?_⟩; conv => whnf) | (first | refine iteP_true rfl ?_ | refine iteP_false rfl ?_ | refine iteP_true ‹_› ?_ | refine iteP_false ‹_› ?_; conv => whnf) | (refine And.intro (by kernel_rfl : indep _ _ = true) ?_; conv => whnf) | (refine And.intro (by rfl : List.all _ _ = true) ?_; conv => whnf) | (refine And.intro (by first | omega | (simp only [plain_i64, plain_ints, plain_nil, all_ints]; done) | (dsimp only; omega) | exact Nat.le_of_ble_eq_true rfl | rfl | (simp; done) | (simp only [htf] at *; first | omega | (simp; omega))) ?_; conv => whnf) | (refine iteP_intro (fun hb => ?_) (fun hb => ?_) <;> (conv => whnf)))
  (refine ⟨_, eq_ret a a h1, ?_⟩; conv => whnf)
  repeat' (first | (refine opt_some (getC_rows rfl rfl (by omega)) ?_; conv => whnf) | (refine opt_some (by dsimp only; exact getC_lent rfl rfl (by omega)) ?_; conv => whnf) | (refine opt_some rfl ?_; conv => whnf) | (refine ⟨_, (by simp only [nf, nl, nm, en, ints, setC_setC, Nat.reduceAdd, Nat.reduceMul]; exact rfl), ?_⟩; conv => whnf) | (refine ⟨_, pick_at rfl (by first | omega | (simp only [plain_i64, plain_ints, plain_nil, all_ints]; done) | (dsimp only; omega) | exact Nat.le_of_ble_eq_true rfl | rfl | (simp; done) | (simp only [htf] at *; first | omega | (simp; omega))), ?_⟩; conv => whnf) | (refine ⟨_, rfl, ?_⟩; conv => whnf) | (first | refine iteP_true rfl ?_ | refine iteP_false rfl ?_ | refine iteP_true ‹_› ?_ | refine iteP_false ‹_› ?_; conv => whnf) | (refine And.intro (by kernel_rfl : indep _ _ = true) ?_; conv => whnf) | (refine And.intro (by rfl : List.all _ _ = true) ?_; conv => whnf) | (refine And.intro (by first | omega | (simp only [plain_i64, plain_ints, plain_nil, all_ints]; done) | (dsimp only; omega) | exact Nat.le_of_ble_eq_true rfl | rfl | (simp; done) | (simp only [htf] at *; first | omega | (simp; omega))) ?_; conv => whnf) | (refine iteP_intro (fun hb => ?_) (fun hb => ?_) <;> (conv => whnf)))
  (refine ⟨_, eq_ret b b h2, ?_⟩; conv => whnf)
  repeat' (first | (refine opt_some (getC_rows rfl rfl (by omega)) ?_; conv => whnf) | (refine opt_some (by dsimp only; exact getC_lent rfl rfl (by omega)) ?_; conv => whnf) | (refine opt_some rfl ?_; conv => whnf) | (refine ⟨_, (by simp only [nf, nl, nm, en, ints, setC_setC, Nat.reduceAdd, Nat.reduceMul]; exact rfl), ?_⟩; conv => whnf) | (refine ⟨_, pick_at rfl (by first | omega | (simp only [plain_i64, plain_ints, plain_nil, all_ints]; done) | (dsimp only; omega) | exact Nat.le_of_ble_eq_true rfl | rfl | (simp; done) | (simp only [htf] at *; first | omega | (simp; omega))), ?_⟩; conv => whnf) | (refine ⟨_, rfl, ?_⟩; conv => whnf) | (first | refine iteP_true rfl ?_ | refine iteP_false rfl ?_ | refine iteP_true ‹_› ?_ | refine iteP_false ‹_› ?_; conv => whnf) | (refine And.intro (by kernel_rfl : indep _ _ = true) ?_; conv => whnf) | (refine And.intro (by rfl : List.all _ _ = true) ?_; conv => whnf) | (refine And.intro (by first | omega | (simp only [plain_i64, plain_ints, plain_nil, all_ints]; done) | (dsimp only; omega) | exact Nat.le_of_ble_eq_true rfl | rfl | (simp; done) | (simp only [htf] at *; first | omega | (simp; omega))) ?_; conv => whnf) | (refine iteP_intro (fun hb => ?_) (fun hb => ?_) <;> (conv => whnf)))
  rfl
set_option maxHeartbeats 4000000 in
set_option maxRecDepth 100000 in
theorem markRedex_ret (n : Int) (a b : List Int) (k : Int) (h1 : a.length < 2 ^ 29) (h2 : b.length < 2 ^ 29) (h0 : 0 ≤ k) (hk : k < 2 ^ 30) : Ret Tryd.prog G0 52 [⟨.mu, .agg [i64 n, ints a, ints b]⟩, ⟨.ro, .one (i64 k)⟩] ⟨.one (i64 (k + a.length + b.length)), [.agg [i64 n, .sl false 1 a.length ((marks k a.length).map i64), .sl false 1 b.length ((marks (k + a.length) b.length).map i64)]]⟩ := by
  (refine ret_of_den (E := en 14 [] (fun _ => []) (fun _ => [])) tt_ok mixed Tryd.func52 rfl rfl rfl rfl ?_; refine ⟨by simp, ?_⟩)
  repeat' (first | (refine opt_some (getC_rows rfl rfl (by omega)) ?_; conv => whnf) | (refine opt_some (by dsimp only; exact getC_lent rfl rfl (by omega)) ?_; conv => whnf) | (refine opt_some rfl ?_; conv => whnf) | (refine ⟨_, (by simp only [nf, nl, nm, en, ints, setC_setC, Nat.reduceAdd, Nat.reduceMul]; exact rfl), ?_⟩; conv => whnf) | (refine ⟨_, pick_at rfl (by first | omega | (simp only [plain_i64, plain_ints, plain_nil, all_ints]; done) | (dsimp only; omega) | exact Nat.le_of_ble_eq_true rfl | rfl | (simp; done) | (simp only [htf] at *; first | omega | (simp; omega))), ?_⟩; conv => whnf) | (refine ⟨_, rfl, ?_⟩; conv => whnf) | (first | refine iteP_true rfl ?_ | refine iteP_false rfl ?_ | refine iteP_true ‹_› ?_ | refine iteP_false ‹_› ?_; conv => whnf) | (refine And.intro (by kernel_rfl : indep _ _ = true) ?_; conv => whnf) | (refine And.intro (by rfl : List.all _ _ = true) ?_; conv => whnf) | (refine And.intro (by first | omega | (simp only [plain_i64, plain_ints, plain_nil, all_ints]; done) | (dsimp only; omega) | exact Nat.le_of_ble_eq_true rfl | rfl | (simp; done) | (simp only [htf] at *; first | omega | (simp; omega))) ?_; conv => whnf) | (refine iteP_intro (fun hb => ?_) (fun hb => ?_) <;> (conv => whnf)))
  (refine ⟨_, mark_ret a k (by omega) h0 (by omega), ?_⟩; conv => whnf)
  repeat' (first | (refine opt_some (getC_rows rfl rfl (by omega)) ?_; conv => whnf) | (refine opt_some (by dsimp only; exact getC_lent rfl rfl (by omega)) ?_; conv => whnf) | (refine opt_some rfl ?_; conv => whnf) | (refine ⟨_, (by simp only [nf, nl, nm, en, ints, setC_setC, Nat.reduceAdd, Nat.reduceMul]; exact rfl), ?_⟩; conv => whnf) | (refine ⟨_, pick_at rfl (by first | omega | (simp only [plain_i64, plain_ints, plain_nil, all_ints]; done) | (dsimp only; omega) | exact Nat.le_of_ble_eq_true rfl | rfl | (simp; done) | (simp only [htf] at *; first | omega | (simp; omega))), ?_⟩; conv => whnf) | (refine ⟨_, rfl, ?_⟩; conv => whnf) | (first | refine iteP_true rfl ?_ | refine iteP_false rfl ?_ | refine iteP_true ‹_› ?_ | refine iteP_false ‹_› ?_; conv => whnf) | (refine And.intro (by kernel_rfl : indep _ _ = true) ?_; conv => whnf) | (refine And.intro (by rfl : List.all _ _ = true) ?_; conv => whnf) | (refine And.intro (by first | omega | (simp only [plain_i64, plain_ints, plain_nil, all_ints]; done) | (dsimp only; omega) | exact Nat.le_of_ble_eq_true rfl | rfl | (simp; done) | (simp only [htf] at *; first | omega | (simp; omega))) ?_; conv => whnf) | (refine iteP_intro (fun hb => ?_) (fun hb => ?_) <;> (conv => whnf)))
  (refine ⟨_, mark_ret b (k + a.length) (by omega) (by omega) (by omega), ?_⟩; conv => whnf)
  repeat' (first | (refine opt_some (getC_rows rfl rfl (by omega)) ?_; conv => whnf) | (refine opt_some (by dsimp only; exact getC_lent rfl rfl (by omega)) ?_; conv => whnf) | (refine opt_some rfl ?_; conv => whnf) | (refine ⟨_, (by simp only [nf, nl, nm, en, ints, setC_setC, Nat.reduceAdd, Nat.reduceMul]; exact rfl), ?_⟩; conv => whnf) | (refine ⟨_, pick_at rfl (by first | omega | (simp only [plain_i64, plain_ints, plain_nil, all_ints]; done) | (dsimp only; omega) | exact Nat.le_of_ble_eq_true rfl | rfl | (simp; done) | (simp only [htf] at *; first | omega | (simp; omega))), ?_⟩; conv => whnf) | (refine ⟨_, rfl, ?_⟩; conv => whnf) | (first | refine iteP_true rfl ?_ | refine iteP_false rfl ?_ | refine iteP_true ‹_› ?_ | refine iteP_false ‹_› ?_; conv => whnf) | (refine And.intro (by kernel_rfl : indep _ _ = true) ?_; conv => whnf) | (refine And.intro (by rfl : List.all _ _ = true) ?_; conv => whnf) | (refine And.intro (by first | omega | (simp only [plain_i64, plain_ints, plain_nil, all_ints]; done) | (dsimp only; omega) | exact Nat.le_of_ble_eq_true rfl | rfl | (simp; done) | (simp only [htf] at *; first | omega | (simp; omega))) ?_; conv => whnf) | (refine iteP_intro (fun hb => ?_) (fun hb => ?_) <;> (conv => whnf)))
  rfl
end Go.Proofs.YtljhmkkmcbfffaaDoor
