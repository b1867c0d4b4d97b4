import Derived.Test.YtihdeagknggeiaaDoorFf
set_option autoImplicit false
set_option linter.unusedSimpArgs false
set_option linter.unusedVariables false
namespace Go.Proofs.YtihdeagknggeiaaDoor
open Go.Den
/-- The code for an alphabet and words. -/
def wcode (a ok : Bool) : Int := if a then (if ok then 0 else 2) else 1
abbrev wordsC (ws : List (List Int)) : Cell := .sl false 1 ws.length (ws.map ints)
theorem alphaOk_n {n : Int} {ds : List Int} (h : alphaOk n ds = true) : 0 ≤ n ∧ n ≤ 8 ∧ (ds.length : Int) = n := by
  unfold alphaOk at h
  simp only [Bool.and_eq_true, decide_eq_true_eq] at h
  exact ⟨h.1.1.1.1, h.1.1.1.2, h.1.1.2⟩
/-- A letter is counted. -/
def bump (cs : List Int) (x : Int) : List Int := if 0 < x then cs.set (x - 1).toNat (cs.getD (x - 1).toNat 0 + 1) else cs.set (-x - 1).toNat (cs.getD (-x - 1).toNat 0 - 1)
theorem bump_length (cs : List Int) (x : Int) : (bump cs x).length = cs.length := by unfold bump; split <;> simp
theorem bumps_length (n : Nat) : ∀ (xs : List Int) (cs : List Int), cs.length = n → (xs.foldl bump cs).length = n
  | [], _, h => h
  | x :: xs, cs, h => bumps_length n xs _ (by rw [bump_length]; exact h)
theorem bump_le {cs : List Int} {x : Int} {k : Int} (h : ∀ c ∈ cs, -k ≤ c ∧ c ≤ k) (hk : 0 ≤ k) : ∀ c ∈ bump cs x, -(k + 1) ≤ c ∧ c ≤ k + 1 := fun c hc => by
  have hg : ∀ j, -k ≤ cs.getD j 0 ∧ cs.getD j 0 ≤ k := fun j => by
    rw [List.getD_eq_getElem?_getD]
    cases e : cs[j]? with
    | none => simp; omega
    | some y => exact h y (List.mem_of_getElem? e)
  unfold bump at hc
  split at hc <;> rcases List.mem_or_eq_of_mem_set hc with h1 | h1
  · have := h c h1; omega
  · have := hg (x - 1).toNat; omega
  · have := h c h1; omega
  · have := hg (-x - 1).toNat; omega
theorem bumps_le : ∀ (xs : List Int) {cs : List Int} {k : Int}, (∀ c ∈ cs, -k ≤ c ∧ c ≤ k) → 0 ≤ k → ∀ c ∈ xs.foldl bump cs, -(k + xs.length) ≤ c ∧ c ≤ k + xs.length
  | [], _, _, h, _ => by simpa using h
  | x :: xs, cs, k, h, hk => fun c hc => by
    have := bumps_le xs (bump_le (x := x) h hk) (by omega) c hc
    simp only [List.length_cons]
    omega
def expo (n : Nat) (xs : List Int) : List Int := xs.foldl bump (List.replicate n 0)
theorem expo_length (n : Nat) (xs : List Int) : (expo n xs).length = n := bumps_length n xs _ (by simp)
theorem expo_le (n : Nat) (xs : List Int) : ∀ c ∈ expo n xs, -(xs.length : Int) ≤ c ∧ c ≤ xs.length := fun c hc => by
  have := bumps_le xs (cs := List.replicate n 0) (k := 0) (fun c hc => by have := List.eq_of_mem_replicate hc; omega) (Int.le_refl _) c hc
  omega
theorem expo_step {n : Nat} {xs : List Int} {i : Nat} (hi : i < xs.length) : expo n (xs.take (i + 1)) = bump (expo n (xs.take i)) xs[i] := by
  unfold expo
  rw [List.take_succ_eq_append_getElem hi, List.foldl_append]
  rfl
/-- The exponents of a signed word, or the code. -/
def expoR (n : Int) (ds xs : List Int) : Option (List Int) := if alphaOk n ds && signedN n xs then some (expo n.toNat xs) else none
theorem signed_mem {n : Int} {xs : List Int} (h : signedN n xs = true) : xs.length ≤ 24 ∧ ∀ x ∈ xs, (-n ≤ x ∧ x ≤ n) ∧ 0 ≠ x := by
  unfold signedN at h
  simp only [Bool.and_eq_true, decide_eq_true_eq, List.all_eq_true, Bool.not_eq_true'] at h
  refine ⟨h.1.1, fun x hx => ⟨h.1.2 x hx, fun e => ?_⟩⟩
  have := List.any_eq_false.1 h.2 x hx
  simp [e] at this
set_option maxHeartbeats 4000000 in
set_option maxRecDepth 100000 in
theorem markAlpha_ret (n k : Int) (ds : List Int) (hd : ds.length < 2 ^ 30) (h0 : 0 ≤ k) (hk : k < 2 ^ 31) : Ret Tryd.prog G0 21 [⟨.mu, .agg [i64 n, ints ds]⟩, ⟨.ro, .one (i64 k)⟩] ⟨.one (i64 (k + ds.length)), [.agg [i64 n, .sl false 1 ds.length ((marks k ds.length).map i64)]]⟩ := by
  (refine ret_of_den (E := en 10 [] (fun _ => []) (fun _ => [])) tt_ok mixed Tryd.func21 rfl rfl rfl rfl ?_; refine ⟨by simp, ?_⟩)
  repeat' (first | ((first | refine opt_some (getC_rows rfl rfl (by omega)) ?_ | refine opt_some (by dsimp only; exact getC_lent rfl rfl (by omega)) ?_ | refine opt_some rfl ?_ | refine ⟨_, (by simp only [nf, nl, nm, en, ints, setC_setC, Nat.reduceAdd, Nat.reduceMul]; exact rfl), ?_⟩ | refine ⟨_, pickT rfl, ?_⟩ | refine ⟨_, rfl, ?_⟩ | refine iteP_true rfl ?_ | refine iteP_false rfl ?_ | refine iteP_true ‹_› ?_ | refine iteP_false ‹_› ?_ | refine andK ?_ | refine andA ?_ | refine andT ?_); conv => whnf) | (refine iteP_intro (fun hb => ?_) (fun hb => ?_) <;> (conv => whnf)))
  (refine ⟨_, mark_ret ds k hd h0 hk, ?_⟩; conv => whnf)
  repeat' (first | ((first | refine opt_some (getC_rows rfl rfl (by omega)) ?_ | refine opt_some (by dsimp only; exact getC_lent rfl rfl (by omega)) ?_ | refine opt_some rfl ?_ | refine ⟨_, (by simp only [nf, nl, nm, en, ints, setC_setC, Nat.reduceAdd, Nat.reduceMul]; exact rfl), ?_⟩ | refine ⟨_, pickT rfl, ?_⟩ | refine ⟨_, rfl, ?_⟩ | refine iteP_true rfl ?_ | refine iteP_false rfl ?_ | refine iteP_true ‹_› ?_ | refine iteP_false ‹_› ?_ | refine andK ?_ | refine andA ?_ | refine andT ?_); conv => whnf) | (refine iteP_intro (fun hb => ?_) (fun hb => ?_) <;> (conv => whnf)))
  rfl
set_option maxHeartbeats 4000000 in
set_option maxRecDepth 100000 in
theorem held_marks_ret (n : Nat) (m : Int) (hx : n < 2 ^ 30) (h0 : 0 ≤ m) (hm : m < 2 ^ 31) : Ret Tryd.prog G0 23 [⟨.ro, .one (.sl false 1 n ((marks m n).map i64))⟩, ⟨.ro, .one (i64 m)⟩] ⟨.one (i64 (m + n)), []⟩ := by
  have := held_ret (marks m n) m (by rw [marks_length]; exact hx) h0 hm (by rw [marks_length])
  unfold ints at this
  rwa [marks_length] at this
theorem expoR_length {n : Int} {ds xs ys : List Int} (h : expoR n ds xs = some ys) : ys.length ≤ 8 := by
  unfold expoR at h
  split at h
  · rename_i h1
    simp only [Bool.and_eq_true] at h1
    have := alphaOk_n h1.1
    cases h
    rw [expo_length]
    omega
  · cases h
end Go.Proofs.YtihdeagknggeiaaDoor
