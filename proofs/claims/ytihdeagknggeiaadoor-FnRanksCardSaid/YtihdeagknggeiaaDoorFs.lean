import Derived.Test.YtihdeagknggeiaaDoorFr
set_option autoImplicit false
set_option linter.unusedSimpArgs false
set_option linter.unusedVariables false
namespace Go.Proofs.YtihdeagknggeiaaDoor
open Go.Den
set_option maxHeartbeats 16000000 in
set_option maxRecDepth 100000 in
theorem big_ret (bs : List Int) (hx : bs.length < 2 ^ 62) : Ret Tryd.prog G0 35 [⟨.ro, .one (byC bs)⟩] ⟨.one (.c (.bool (decide (4096 < (bs.length : Int))))), []⟩ := by
  unfold byC
  (refine ret_of_den (E := en 6 [] (fun _ => []) (fun _ => [])) tt_ok mixed Tryd.func35 rfl rfl rfl rfl ?_; refine ⟨by simp, ?_⟩)
  repeat' (first | ((first | refine opt_some (getC_rows rfl rfl (by omega)) ?_ | refine opt_some (by dsimp only; exact getC_lent rfl rfl (by omega)) ?_ | refine opt_some rfl ?_ | refine ⟨_, (by simp only [nf, nl, nm, en, ints, setC_setC, Nat.reduceAdd, Nat.reduceMul]; exact rfl), ?_⟩ | refine ⟨_, pickT rfl, ?_⟩ | refine ⟨_, rfl, ?_⟩ | refine iteP_true rfl ?_ | refine iteP_false rfl ?_ | refine iteP_true ‹_› ?_ | refine iteP_false ‹_› ?_ | refine andK ?_ | refine andA ?_ | refine andT ?_); conv => whnf) | (refine iteP_intro (fun hb => ?_) (fun hb => ?_) <;> (conv => whnf)))
  rfl
set_option maxHeartbeats 16000000 in
set_option maxRecDepth 100000 in
theorem likeInts_ret (a b : List Int) (ha : a.length < 2 ^ 62) : Ret Tryd.prog G0 43 [⟨.ro, .one (ints a)⟩, ⟨.ro, .one (ints b)⟩] ⟨.one (.c (.bool (decide (a = b)))), []⟩ := by
  (refine ret_of_den (E := en 26 [] (fun _ => [(5, 0), (0, 1), (1, 1)]) (fun _ => [])) tt_ok mixed Tryd.func43 rfl rfl rfl rfl ?_; refine ⟨by simp, ?_⟩)
  repeat' (first | ((first | refine opt_some (getC_rows rfl rfl (by omega)) ?_ | refine opt_some (by dsimp only; exact getC_lent rfl rfl (by omega)) ?_ | refine opt_some rfl ?_ | refine ⟨_, (by simp only [nf, nl, nm, en, ints, setC_setC, Nat.reduceAdd, Nat.reduceMul]; exact rfl), ?_⟩ | refine ⟨_, pickT rfl, ?_⟩ | refine ⟨_, rfl, ?_⟩ | refine iteP_true rfl ?_ | refine iteP_false rfl ?_ | refine iteP_true ‹_› ?_ | refine iteP_false ‹_› ?_ | refine andK ?_ | refine andA ?_ | refine andT ?_); conv => whnf) | (refine iteP_intro (fun hb => ?_) (fun hb => ?_) <;> (conv => whnf)))
  · have : a ≠ b := fun e => by simp [e] at hb
    exact endB (by simp [this])
  have hl : a.length = b.length := Int.natCast_inj.1 (neF hb)
  refine ⟨fun k vs => ∃ i : Nat, i ≤ a.length ∧ (∀ j < i, a[j]? = b[j]?) ∧ vs = [.one (i64 i), .one (.shd (ints a)), .one (.shd (ints b))] ∧ k = a.length - i, rfl, ⟨_, 0, by omega, by simp, rfl, rfl⟩, ?_⟩
  rintro k vs ⟨i, hi, hs, rfl, rfl⟩
  repeat (first | ((first | refine opt_some (getC_rows rfl rfl (by omega)) ?_ | refine opt_some (by dsimp only; exact getC_lent rfl rfl (by omega)) ?_ | refine opt_some rfl ?_ | refine ⟨_, (by simp only [nf, nl, nm, en, ints, setC_setC, Nat.reduceAdd, Nat.reduceMul]; exact rfl), ?_⟩ | refine ⟨_, pickT rfl, ?_⟩ | refine ⟨_, rfl, ?_⟩ | refine iteP_true rfl ?_ | refine iteP_false rfl ?_ | refine iteP_true ‹_› ?_ | refine iteP_false ‹_› ?_ | refine andK ?_ | refine andA ?_ | refine andT ?_); conv => whnf))
  refine iteP_intro (fun hb => ?_) (fun hb => ?_) <;> (conv => whnf)
  · have hi' : i < a.length := by have := leT hb; omega
    repeat' (first | ((first | refine opt_some (getC_rows rfl rfl (by omega)) ?_ | refine opt_some (by dsimp only; exact getC_lent rfl rfl (by omega)) ?_ | refine opt_some rfl ?_ | refine ⟨_, (by simp only [nf, nl, nm, en, ints, setC_setC, Nat.reduceAdd, Nat.reduceMul]; exact rfl), ?_⟩ | refine ⟨_, pickT rfl, ?_⟩ | refine ⟨_, rfl, ?_⟩ | refine iteP_true rfl ?_ | refine iteP_false rfl ?_ | refine iteP_true ‹_› ?_ | refine iteP_false ‹_› ?_ | refine andK ?_ | refine andA ?_ | refine andT ?_); conv => whnf) | (refine iteP_intro (fun hb => ?_) (fun hb => ?_) <;> (conv => whnf)))
    · refine endB ?_
      have : a ≠ b := fun e => by subst e; simp at hb
      simp [this]
    · refine ⟨_, ?_, i + 1, hi', fun j hj => ?_, by rw [wrap_succ (by omega)]; rfl, rfl⟩
      · omega
      · rcases Nat.lt_succ_iff_lt_or_eq.1 hj with h | rfl
        · exact hs j h
        · rw [List.getElem?_eq_getElem hi', List.getElem?_eq_getElem (by omega)]
          simpa using hb
  · repeat' (first | ((first | refine opt_some (getC_rows rfl rfl (by omega)) ?_ | refine opt_some (by dsimp only; exact getC_lent rfl rfl (by omega)) ?_ | refine opt_some rfl ?_ | refine ⟨_, (by simp only [nf, nl, nm, en, ints, setC_setC, Nat.reduceAdd, Nat.reduceMul]; exact rfl), ?_⟩ | refine ⟨_, pickT rfl, ?_⟩ | refine ⟨_, rfl, ?_⟩ | refine iteP_true rfl ?_ | refine iteP_false rfl ?_ | refine iteP_true ‹_› ?_ | refine iteP_false ‹_› ?_ | refine andK ?_ | refine andA ?_ | refine andT ?_); conv => whnf) | (refine iteP_intro (fun hb => ?_) (fun hb => ?_) <;> (conv => whnf)))
    obtain rfl : i = a.length := by have := leF hb; omega
    refine endB ?_
    have : a = b := List.ext_getElem? fun j => by
      by_cases hj : j < a.length
      · exact hs j hj
      · rw [List.getElem?_eq_none (by omega), List.getElem?_eq_none (by omega)]
    rw [this]; simp
/-- A source of numbers. -/
def srcC (bs : List Int) (a h : Int) : Cell := .ptr [.shd (byC bs), i64 a, .c (.int .u64 h)]
structure Src (bs : List Int) : Prop where
  ok : Byts bs
  len : bs.length ≤ 4096
def At0 (bs : List Int) (a : Int) : Prop := 0 ≤ a ∧ a ≤ bs.length
theorem mask24 (x : Int) : 0 ≤ IntKind.u64.wrap ((BitVec.ofInt IntKind.u64.bits x &&& BitVec.ofInt IntKind.u64.bits 16777215).toNat : Int) ∧ IntKind.u64.wrap ((BitVec.ofInt IntKind.u64.bits x &&& BitVec.ofInt IntKind.u64.bits 16777215).toNat : Int) < 16777216 := by
  have h : (BitVec.ofInt IntKind.u64.bits x &&& BitVec.ofInt IntKind.u64.bits 16777215).toNat ≤ 16777215 := by
    rw [BitVec.toNat_and]
    exact Nat.le_trans Nat.and_le_right (by decide)
  generalize (BitVec.ofInt IntKind.u64.bits x &&& BitVec.ofInt IntKind.u64.bits 16777215).toNat = m at h
  have : IntKind.u64.wrap (m : Int) = m := by
    unfold IntKind.wrap
    simp [IntKind.signed, IntKind.bits]
    omega
  rw [this]
  omega
theorem rem_ok {x n : Int} (hx : 0 ≤ x) (hn : 1 ≤ n) : 0 ≤ x.tmod n ∧ x.tmod n < n := ⟨Int.tmod_nonneg _ hx, Int.tmod_lt_of_pos _ (by omega)⟩
theorem next_val1 (y b n : Int) (hb : 0 ≤ b ∧ b < 256) (hn : 1 ≤ n) : 0 ≤ (IntKind.i64.wrap (IntKind.i64.wrap (IntKind.u64.wrap ((BitVec.ofInt IntKind.u64.bits y &&& BitVec.ofInt IntKind.u64.bits 16777215).toNat : Int)) + IntKind.i64.wrap b)).tmod n ∧ (IntKind.i64.wrap (IntKind.i64.wrap (IntKind.u64.wrap ((BitVec.ofInt IntKind.u64.bits y &&& BitVec.ofInt IntKind.u64.bits 16777215).toNat : Int)) + IntKind.i64.wrap b)).tmod n < n := by
  have h := mask24 y
  generalize IntKind.u64.wrap ((BitVec.ofInt IntKind.u64.bits y &&& BitVec.ofInt IntKind.u64.bits 16777215).toNat : Int) = m at h
  rw [show IntKind.i64.wrap m = m from wrap_i64 (by omega) (by omega), show IntKind.i64.wrap b = b from wrap_i64 (by omega) (by omega), show IntKind.i64.wrap (m + b) = m + b from wrap_i64 (by omega) (by omega)]
  exact rem_ok (by omega) hn
theorem next_val2 (y n : Int) (hn : 1 ≤ n) : 0 ≤ (IntKind.i64.wrap (IntKind.u64.wrap ((BitVec.ofInt IntKind.u64.bits y &&& BitVec.ofInt IntKind.u64.bits 16777215).toNat : Int))).tmod n ∧ (IntKind.i64.wrap (IntKind.u64.wrap ((BitVec.ofInt IntKind.u64.bits y &&& BitVec.ofInt IntKind.u64.bits 16777215).toNat : Int))).tmod n < n := by
  have h := mask24 y
  generalize IntKind.u64.wrap ((BitVec.ofInt IntKind.u64.bits y &&& BitVec.ofInt IntKind.u64.bits 16777215).toNat : Int) = m at h
  rw [show IntKind.i64.wrap m = m from wrap_i64 (by omega) (by omega)]
  exact rem_ok (by omega) hn
set_option maxHeartbeats 16000000 in
set_option maxRecDepth 100000 in
theorem l01From_ex (bs : List Int) (hs : Src bs) : ∃ r, (∃ h : Int, r = ⟨.one (srcC bs 0 h), []⟩) ∧ Ret Tryd.prog G0 126 [⟨.ro, .one (byC bs)⟩] r := by
  have hl := hs.len
  unfold srcC byC
  (refine rete_of_den (E := en 38 [] (fun _ => [(3, 0), (4, 0), (0, 1)]) (fun _ => [])) tt_ok mixed Tryd.func126 rfl rfl rfl rfl ?_; refine ⟨by simp, ?_⟩)
  repeat' (first | ((first | refine opt_some (getC_rows rfl rfl (by omega)) ?_ | refine opt_some (by dsimp only; exact getC_lent rfl rfl (by omega)) ?_ | refine opt_some rfl ?_ | refine ⟨_, (by simp only [nf, nl, nm, en, ints, setC_setC, Nat.reduceAdd, Nat.reduceMul]; exact rfl), ?_⟩ | refine ⟨_, pickT rfl, ?_⟩ | refine ⟨_, rfl, ?_⟩ | refine iteP_true rfl ?_ | refine iteP_false rfl ?_ | refine iteP_true ‹_› ?_ | refine iteP_false ‹_› ?_ | refine andK ?_ | refine andA ?_ | refine andT ?_); conv => whnf) | (refine iteP_intro (fun hb => ?_) (fun hb => ?_) <;> (conv => whnf)))
  refine ⟨fun k vs => ∃ (i : Nat) (h : Int), i ≤ bs.length ∧ vs = [.one (.ptr [.shd (byC bs), i64 0, .c (.int .u64 h)]), .one (i64 i), .one (.shd (byC bs))] ∧ k = bs.length - i, rfl, ⟨_, 0, _, by omega, rfl, rfl⟩, ?_⟩
  rintro k vs ⟨i, h, hi, rfl, rfl⟩
  unfold byC
  repeat (first | ((first | refine opt_some (getC_rows rfl rfl (by omega)) ?_ | refine opt_some (by dsimp only; exact getC_lent rfl rfl (by omega)) ?_ | refine opt_some rfl ?_ | refine ⟨_, (by simp only [nf, nl, nm, en, ints, setC_setC, Nat.reduceAdd, Nat.reduceMul]; exact rfl), ?_⟩ | refine ⟨_, pickT rfl, ?_⟩ | refine ⟨_, rfl, ?_⟩ | refine iteP_true rfl ?_ | refine iteP_false rfl ?_ | refine iteP_true ‹_› ?_ | refine iteP_false ‹_› ?_ | refine andK ?_ | refine andA ?_ | refine andT ?_); conv => whnf))
  refine iteP_intro (fun hb => ?_) (fun hb => ?_) <;> (conv => whnf)
  · have hi' := ltT hb
    have h46 : decide ((i : Int) < 4096) = true := decide_eq_true (by omega)
    repeat' (first | ((first | refine opt_some (getC_rows rfl rfl (by omega)) ?_ | refine opt_some (by dsimp only; exact getC_lent rfl rfl (by omega)) ?_ | refine opt_some rfl ?_ | refine ⟨_, (by simp only [nf, nl, nm, en, ints, setC_setC, Nat.reduceAdd, Nat.reduceMul, h46]; exact rfl), ?_⟩ | refine ⟨_, pickT rfl, ?_⟩ | refine ⟨_, rfl, ?_⟩ | refine iteP_true rfl ?_ | refine iteP_false rfl ?_ | refine iteP_true ‹_› ?_ | refine iteP_false ‹_› ?_ | refine andK ?_ | refine andA ?_ | refine andT ?_); conv => whnf) | (refine iteP_intro (fun hb => ?_) (fun hb => ?_) <;> (conv => whnf)))
    refine ⟨_, ?_, i + 1, _, hi', (by rw [wrap_succ (by omega)]; rfl), rfl⟩
    omega
  · repeat' (first | ((first | refine opt_some (getC_rows rfl rfl (by omega)) ?_ | refine opt_some (by dsimp only; exact getC_lent rfl rfl (by omega)) ?_ | refine opt_some rfl ?_ | refine ⟨_, (by simp only [nf, nl, nm, en, ints, setC_setC, Nat.reduceAdd, Nat.reduceMul]; exact rfl), ?_⟩ | refine ⟨_, pickT rfl, ?_⟩ | refine ⟨_, rfl, ?_⟩ | refine iteP_true rfl ?_ | refine iteP_false rfl ?_ | refine iteP_true ‹_› ?_ | refine iteP_false ‹_› ?_ | refine andK ?_ | refine andA ?_ | refine andT ?_); conv => whnf) | (refine iteP_intro (fun hb => ?_) (fun hb => ?_) <;> (conv => whnf)))
    exact ⟨_, rfl⟩
set_option maxHeartbeats 16000000 in
set_option maxRecDepth 100000 in
theorem next_ex (bs : List Int) (hs : Src bs) (a h n : Int) (ha : At0 bs a) : ∃ r, (∃ x a' h' : Int, r = ⟨.one (i64 x), [.one (srcC bs a' h')]⟩ ∧ At0 bs a' ∧ 0 ≤ x ∧ (n < 1 → x = 0) ∧ (1 ≤ n → x < n)) ∧ Ret Tryd.prog G0 91 [⟨.mu, .one (srcC bs a h)⟩, ⟨.ro, .one (i64 n)⟩] r := by
  have hl := hs.len
  obtain ⟨h0, h1⟩ := ha
  obtain ⟨p, rfl⟩ : ∃ p : Nat, a = p := ⟨a.toNat, by omega⟩
  unfold srcC byC
  (refine rete_of_den (E := en 58 [] (fun _ => []) (fun _ => [])) tt_ok mixed Tryd.func91 rfl rfl rfl rfl ?_; refine ⟨by simp, ?_⟩)
  repeat' (first | ((first | refine opt_some (getC_rows rfl rfl (by omega)) ?_ | refine opt_some (by dsimp only; exact getC_lent rfl rfl (by omega)) ?_ | refine opt_some rfl ?_ | refine ⟨_, (by simp only [nf, nl, nm, en, ints, setC_setC, Nat.reduceAdd, Nat.reduceMul]; exact rfl), ?_⟩ | refine ⟨_, pickT rfl, ?_⟩ | refine ⟨_, rfl, ?_⟩ | refine iteP_true rfl ?_ | refine iteP_false rfl ?_ | refine iteP_true ‹_› ?_ | refine iteP_false ‹_› ?_ | refine andK ?_ | refine andA ?_ | refine andT ?_); conv => whnf) | (refine iteP_intro (fun hb => ?_) (fun hb => ?_) <;> (conv => whnf)))
  · exact ⟨0, p, h, rfl, ⟨h0, h1⟩, Int.le_refl _, fun _ => rfl, fun h => absurd (leT hb) (by omega)⟩
  · rename_i q
    have hn : 1 ≤ n := by have := leF q; omega
    have hp : p < bs.length := by have := leT hb; omega
    have hbb := hs.ok bs[p] (List.getElem_mem hp)
    exact ⟨_, _, _, rfl, by rw [wrap_succ (by omega)]; exact ⟨by omega, by omega⟩, (next_val1 _ _ n hbb hn).1, fun h => by omega, fun _ => (next_val1 _ _ n hbb hn).2⟩
  · rename_i q
    have hn : 1 ≤ n := by have := leF q; omega
    exact ⟨_, _, _, rfl, ⟨h0, h1⟩, (next_val2 _ n hn).1, fun h => by omega, fun _ => (next_val2 _ n hn).2⟩
set_option maxHeartbeats 16000000 in
set_option maxRecDepth 100000 in
theorem pick_ex (bs : List Int) (hs : Src bs) (a h : Int) (ha : At0 bs a) (xs : List Int) (hx : 0 < xs.length) (hx2 : xs.length ≤ 2 ^ 20) : ∃ r, (∃ x a' h' : Int, r = ⟨.one (i64 x), [.one (srcC bs a' h')]⟩ ∧ At0 bs a' ∧ x ∈ xs) ∧ Ret Tryd.prog G0 92 [⟨.mu, .one (srcC bs a h)⟩, ⟨.mv, .one (ints xs)⟩] r := by
  obtain ⟨r, ⟨y, a', h', rfl, ha', h0, -, h1⟩, hr⟩ := next_ex bs hs a h xs.length ha
  have h1 := h1 (by omega)
  obtain ⟨p, rfl⟩ : ∃ p : Nat, y = p := ⟨y.toNat, by omega⟩
  have hp : p < xs.length := by omega
  unfold srcC byC at *
  (refine rete_of_den (E := en 12 [] (fun _ => []) (fun _ => [])) tt_ok mixed Tryd.func92 rfl rfl rfl rfl ?_; refine ⟨by simp, ?_⟩)
  repeat' (first | ((first | refine opt_some (getC_rows rfl rfl (by omega)) ?_ | refine opt_some (by dsimp only; exact getC_lent rfl rfl (by omega)) ?_ | refine opt_some rfl ?_ | refine ⟨_, (by simp only [nf, nl, nm, en, ints, setC_setC, Nat.reduceAdd, Nat.reduceMul]; exact rfl), ?_⟩ | refine ⟨_, pickT rfl, ?_⟩ | refine ⟨_, rfl, ?_⟩ | refine iteP_true rfl ?_ | refine iteP_false rfl ?_ | refine iteP_true ‹_› ?_ | refine iteP_false ‹_› ?_ | refine andK ?_ | refine andA ?_ | refine andT ?_); conv => whnf) | (refine iteP_intro (fun hb => ?_) (fun hb => ?_) <;> (conv => whnf)))
  (refine ⟨_, hr, ?_⟩; conv => whnf)
  repeat' (first | ((first | refine opt_some (getC_rows rfl rfl (by omega)) ?_ | refine opt_some (by dsimp only; exact getC_lent rfl rfl (by omega)) ?_ | refine opt_some rfl ?_ | refine ⟨_, (by simp only [nf, nl, nm, en, ints, setC_setC, Nat.reduceAdd, Nat.reduceMul]; exact rfl), ?_⟩ | refine ⟨_, pickT rfl, ?_⟩ | refine ⟨_, rfl, ?_⟩ | refine iteP_true rfl ?_ | refine iteP_false rfl ?_ | refine iteP_true ‹_› ?_ | refine iteP_false ‹_› ?_ | refine andK ?_ | refine andA ?_ | refine andT ?_); conv => whnf) | (refine iteP_intro (fun hb => ?_) (fun hb => ?_) <;> (conv => whnf)))
  exact ⟨_, _, _, rfl, ha', List.getElem_mem hp⟩
set_option maxHeartbeats 16000000 in
set_option maxRecDepth 100000 in
theorem free_ret (n : Nat) (hn : n ≤ 62) : Ret Tryd.prog G0 161 [⟨.ro, .one (i64 n)⟩] ⟨.agg [i64 n, ints (natI (powsN n))], []⟩ := by
  (refine ret_of_den (E := en 21 [] (fun _ => [(2, 0), (3, 0), (4, 0), (0, 0)]) (fun _ => [])) tt_ok mixed Tryd.func161 rfl rfl rfl rfl ?_; refine ⟨by simp, ?_⟩)
  repeat' (first | ((first | refine opt_some (getC_rows rfl rfl (by omega)) ?_ | refine opt_some (by dsimp only; exact getC_lent rfl rfl (by omega)) ?_ | refine opt_some rfl ?_ | refine ⟨_, (by simp only [nf, nl, nm, en, ints, setC_setC, Nat.reduceAdd, Nat.reduceMul]; exact rfl), ?_⟩ | refine ⟨_, pickT rfl, ?_⟩ | refine ⟨_, rfl, ?_⟩ | refine iteP_true rfl ?_ | refine iteP_false rfl ?_ | refine iteP_true ‹_› ?_ | refine iteP_false ‹_› ?_ | refine andK ?_ | refine andA ?_ | refine andT ?_); conv => whnf) | (refine iteP_intro (fun hb => ?_) (fun hb => ?_) <;> (conv => whnf)))
  refine ⟨fun k vs => ∃ i : Nat, i ≤ n ∧ vs = [.one (.ptr [i64 0, nilS]), .one (.ptr [i64 n, ints (natI (powsN i))]), .one (i64 i), .one (i64 n)] ∧ k = n - i, rfl, ⟨_, 0, by omega, rfl, rfl⟩, ?_⟩
  rintro k vs ⟨i, hi, rfl, rfl⟩
  have hpl := natI_length (powsN i)
  have hpl2 := powsN_length i
  repeat (first | ((first | refine opt_some (getC_rows rfl rfl (by omega)) ?_ | refine opt_some (by dsimp only; exact getC_lent rfl rfl (by omega)) ?_ | refine opt_some rfl ?_ | refine ⟨_, (by simp only [nf, nl, nm, en, ints, setC_setC, Nat.reduceAdd, Nat.reduceMul]; exact rfl), ?_⟩ | refine ⟨_, pickT rfl, ?_⟩ | refine ⟨_, rfl, ?_⟩ | refine iteP_true rfl ?_ | refine iteP_false rfl ?_ | refine iteP_true ‹_› ?_ | refine iteP_false ‹_› ?_ | refine andK ?_ | refine andA ?_ | refine andT ?_); conv => whnf))
  refine iteP_intro (fun hb => ?_) (fun hb => ?_) <;> (conv => whnf)
  · have hi' : i < n := by have := leT hb; omega
    have hsn := powsN_succ i
    repeat (first | ((first | refine opt_some (getC_rows rfl rfl (by omega)) ?_ | refine opt_some (by dsimp only; exact getC_lent rfl rfl (by omega)) ?_ | refine opt_some rfl ?_ | refine ⟨_, (by simp only [nf, nl, nm, en, ints, setC_setC, Nat.reduceAdd, Nat.reduceMul]; exact rfl), ?_⟩ | refine ⟨_, pickT rfl, ?_⟩ | refine ⟨_, rfl, ?_⟩ | refine iteP_true rfl ?_ | refine iteP_false rfl ?_ | refine iteP_true ‹_› ?_ | refine iteP_false ‹_› ?_ | refine andK ?_ | refine andA ?_ | refine andT ?_); conv => whnf))
    (refine ⟨_, l01One_ret i (by omega), ?_⟩; conv => whnf)
    repeat (first | ((first | refine opt_some (getC_rows rfl rfl (by omega)) ?_ | refine opt_some (by dsimp only; exact getC_lent rfl rfl (by omega)) ?_ | refine opt_some rfl ?_ | refine ⟨_, (by simp only [nf, nl, nm, en, ints, setC_setC, Nat.reduceAdd, Nat.reduceMul]; exact rfl), ?_⟩ | refine ⟨_, pickT rfl, ?_⟩ | refine ⟨_, rfl, ?_⟩ | refine iteP_true rfl ?_ | refine iteP_false rfl ?_ | refine iteP_true ‹_› ?_ | refine iteP_false ‹_› ?_ | refine andK ?_ | refine andA ?_ | refine andT ?_); conv => whnf))
    refine ⟨_, ?_, i + 1, hi', ?_, rfl⟩
    · omega
    · rw [wrap_succ (by omega), hsn, ints_natI_snoc]
      rfl
  · obtain rfl : i = n := by have := leF hb; omega
    repeat' (first | ((first | refine opt_some (getC_rows rfl rfl (by omega)) ?_ | refine opt_some (by dsimp only; exact getC_lent rfl rfl (by omega)) ?_ | refine opt_some rfl ?_ | refine ⟨_, (by simp only [nf, nl, nm, en, ints, setC_setC, Nat.reduceAdd, Nat.reduceMul]; exact rfl), ?_⟩ | refine ⟨_, pickT rfl, ?_⟩ | refine ⟨_, rfl, ?_⟩ | refine iteP_true rfl ?_ | refine iteP_false rfl ?_ | refine iteP_true ‹_› ?_ | refine iteP_false ‹_› ?_ | refine andK ?_ | refine andA ?_ | refine andT ?_); conv => whnf) | (refine iteP_intro (fun hb => ?_) (fun hb => ?_) <;> (conv => whnf)))
    rfl
/-- Two letters made to depend on each other. -/
def joinN (ms : List Nat) (a b : Nat) : List Nat := (ms.set a (ms.getD a 0 ||| 2 ^ b)).set b ((ms.set a (ms.getD a 0 ||| 2 ^ b)).getD b 0 ||| 2 ^ a)
theorem joinN_length (ms : List Nat) (a b : Nat) : (joinN ms a b).length = ms.length := by simp [joinN]
theorem getD_set {ms : List Nat} {a c v : Nat} (ha : a < ms.length) : (ms.set a v).getD c 0 = if c = a then v else ms.getD c 0 := by
  simp only [List.getD_eq_getElem?_getD, List.getElem?_set]
  by_cases e : a = c
  · subst e; simp [ha]
  · rw [if_neg e, if_neg (Ne.symm e)]
theorem joinN_dep {ms : List Nat} {a b : Nat} (ha : a < ms.length) (hb : b < ms.length) (c d : Nat) : dep (joinN ms a b) c d = (dep ms c d || (decide (c = a) && decide (d = b)) || (decide (c = b) && decide (d = a))) := by
  unfold dep joinN
  rw [getD_set (by simpa using hb), getD_set ha, getD_set ha]
  have key : ∀ x k : Nat, (x ||| 2 ^ k).testBit d = (x.testBit d || decide (d = k)) := fun x k => by
    rw [Nat.testBit_or, Nat.testBit_two_pow]
    congr 1
    rw [decide_eq_decide]
    exact eq_comm
  by_cases h1 : c = b
  · subst h1
    rw [if_pos rfl, key]
    by_cases h2 : c = a
    · subst h2
      rw [if_pos rfl, key]
      simp
    · rw [if_neg h2]
      simp [h2]
  · rw [if_neg h1]
    by_cases h2 : c = a
    · subst h2
      rw [if_pos rfl, key]
      simp [h1]
    · rw [if_neg h2]
      simp [h1, h2]
theorem alpha_dep {ms : List Nat} (h1 : ∀ m ∈ ms, m < 2 ^ ms.length) (h2 : ∀ a b, dep ms a b = dep ms b a) (h3 : ∀ a < ms.length, dep ms a a = true) : Alpha ms := ⟨h1, h2, h3⟩
theorem alpha_join {ms : List Nat} (hA : Alpha ms) {a b : Nat} (ha : a < ms.length) (hb : b < ms.length) : Alpha (joinN ms a b) := by
  refine alpha_dep (fun m hm => ?_) (fun c d => ?_) fun c hc => ?_
  · rw [joinN_length]
    have hlt : ∀ c < ms.length, ms.getD c 0 < 2 ^ ms.length := fun c hc => by
      rw [List.getD_eq_getElem?_getD, List.getElem?_eq_getElem hc, Option.getD_some]
      exact hA.lt _ (List.getElem_mem hc)
    have hp : ∀ c < ms.length, 2 ^ c < 2 ^ ms.length := fun c hc => Nat.pow_lt_pow_right (by decide) hc
    have hfst : ∀ m ∈ ms.set a (ms.getD a 0 ||| 2 ^ b), m < 2 ^ ms.length := fun m hm => by
      rcases List.mem_or_eq_of_mem_set hm with h | rfl
      · exact hA.lt m h
      · exact Nat.or_lt_two_pow (hlt a ha) (hp b hb)
    unfold joinN at hm
    rcases List.mem_or_eq_of_mem_set hm with h | rfl
    · exact hfst m h
    · refine Nat.or_lt_two_pow ?_ (hp a ha)
      rw [getD_set ha]
      split
      · exact Nat.or_lt_two_pow (hlt a ha) (hp b hb)
      · exact hlt b hb
  · rw [joinN_dep ha hb, joinN_dep ha hb, hA.sym c d]
    cases dep ms d c <;> cases decide (c = a) <;> cases decide (d = b) <;> cases decide (c = b) <;> cases decide (d = a) <;> rfl
  · rw [joinN_length] at hc
    rw [joinN_dep ha hb, hA.self c hc]
    rfl
theorem alpha_pows {n : Nat} : Alpha (powsN n) := by
  have hd : ∀ a b, dep (powsN n) a b = (decide (a < n) && decide (a = b)) := fun a b => by
    unfold dep powsN
    rw [List.getD_eq_getElem?_getD, List.getElem?_map]
    by_cases ha : a < n
    · rw [List.getElem?_eq_getElem (by simpa using ha)]
      simp [Nat.testBit_two_pow, ha]
    · rw [List.getElem?_eq_none (by simp; omega)]
      simp [ha]
  refine alpha_dep (fun m hm => ?_) (fun a b => ?_) fun a ha => ?_
  · obtain ⟨j, hj, rfl⟩ := List.mem_map.1 hm
    rw [powsN_length]
    exact Nat.pow_lt_pow_right (by decide) (by simpa using hj)
  · rw [hd, hd]
    by_cases e : a = b
    · subst e; rfl
    · simp [e, Ne.symm e]
  · rw [powsN_length] at ha
    rw [hd]
    simp [ha]
set_option maxHeartbeats 16000000 in
set_option maxRecDepth 100000 in
theorem join_ret (n : Int) (ms : List Nat) (a b : Nat) (ha : a < ms.length) (hb : b < ms.length) (hl : ms.length ≤ 16) (hm : ∀ m ∈ ms, m < 2 ^ ms.length) : Ret Tryd.prog G0 162 [⟨.mu, .agg [i64 n, ints (natI ms)]⟩, ⟨.ro, .one (i64 a)⟩, ⟨.ro, .one (i64 b)⟩] ⟨.tup [], [.agg [i64 n, ints (natI (joinN ms a b))]]⟩ := by
  have hnl := natI_length ms
  have hga : (natI ms)[a]'(by rw [hnl]; exact ha) = ((ms.getD a 0 : Nat) : Int) := natI_getD ha
  have hm63 := getD_lt' hm (by omega) ha
  have ho1 := or_i64 (a := ms.getD a 0) (b := 2 ^ b) hm63 (pow_lt_63 (by omega))
  (refine ret_of_den (E := en 30 [] (fun _ => []) (fun _ => [])) tt_ok mixed Tryd.func162 rfl rfl rfl rfl ?_; refine ⟨by simp, ?_⟩)
  repeat' (first | ((first | refine opt_some (getC_rows rfl rfl (by omega)) ?_ | refine opt_some (by dsimp only; exact getC_lent rfl rfl (by omega)) ?_ | refine opt_some rfl ?_ | refine ⟨_, (by simp only [nf, nl, nm, en, ints, setC_setC, Nat.reduceAdd, Nat.reduceMul, hga]; exact rfl), ?_⟩ | refine ⟨_, pickT rfl, ?_⟩ | refine ⟨_, rfl, ?_⟩ | refine iteP_true rfl ?_ | refine iteP_false rfl ?_ | refine iteP_true ‹_› ?_ | refine iteP_false ‹_› ?_ | refine andK ?_ | refine andA ?_ | refine andT ?_); conv => whnf) | (refine iteP_intro (fun hb => ?_) (fun hb => ?_) <;> (conv => whnf)))
  (refine ⟨_, l01One_ret b (by omega), ?_⟩; conv => whnf)
  repeat' (first | ((first | refine opt_some (getC_rows rfl rfl (by omega)) ?_ | refine opt_some (by dsimp only; exact getC_lent rfl rfl (by omega)) ?_ | refine opt_some rfl ?_ | refine ⟨_, (by simp only [nf, nl, nm, en, ints, setC_setC, Nat.reduceAdd, Nat.reduceMul, hga, ho1]; exact rfl), ?_⟩ | refine ⟨_, pickT rfl, ?_⟩ | refine ⟨_, rfl, ?_⟩ | refine iteP_true rfl ?_ | refine iteP_false rfl ?_ | refine iteP_true ‹_› ?_ | refine iteP_false ‹_› ?_ | refine andK ?_ | refine andA ?_ | refine andT ?_); conv => whnf) | (refine iteP_intro (fun hb => ?_) (fun hb => ?_) <;> (conv => whnf)))
  refine ⟨⟨by rw [Int.toNat_natCast, List.length_map, hnl]; show a * 1 + 1 ≤ _; omega, plain_i64 _⟩, ?_⟩
  conv => whnf
  obtain ⟨m1, he⟩ : ∃ m1, ms.set a (ms.getD a 0 ||| 2 ^ b) = m1 := ⟨_, rfl⟩
  have hlen : (natI ms).length = (natI m1).length := by rw [← he, natI_length, natI_length, List.length_set]
  have hm1 : m1.length = ms.length := by rw [← he, List.length_set]
  have hb1 : m1.getD b 0 < 2 ^ 63 := by
    rw [← he, getD_set ha]
    split
    · exact Nat.or_lt_two_pow hm63 (pow_lt_63 (by omega))
    · exact getD_lt' hm (by omega) hb
  have hjn : joinN ms a b = m1.set b (m1.getD b 0 ||| 2 ^ a) := by
    unfold joinN
    rw [he]
  have hnl1 := natI_length m1
  have hgb : (natI m1)[b]'(by rw [hnl1, hm1]; exact hb) = ((m1.getD b 0 : Nat) : Int) := natI_getD (by rw [hm1]; exact hb)
  have ho2 := or_i64 (a := m1.getD b 0) (b := 2 ^ a) hb1 (pow_lt_63 (by omega))
  have hlen2 : (natI m1).length = (natI (joinN ms a b)).length := by rw [hjn, natI_length, natI_length, List.length_set]
  refine ⟨_, by simp only [nf, nl, nm, en, ints, setC_setC, Nat.reduceAdd, Nat.reduceMul]; rw [natI_splice rfl ha rfl, he, hlen], ?_⟩
  conv => whnf
  repeat' (first | ((first | refine opt_some (getC_rows rfl rfl (by omega)) ?_ | refine opt_some (by dsimp only; exact getC_lent rfl rfl (by omega)) ?_ | refine opt_some rfl ?_ | refine ⟨_, (by simp only [nf, nl, nm, en, ints, setC_setC, Nat.reduceAdd, Nat.reduceMul, hgb]; exact rfl), ?_⟩ | refine ⟨_, pickT rfl, ?_⟩ | refine ⟨_, rfl, ?_⟩ | refine iteP_true rfl ?_ | refine iteP_false rfl ?_ | refine iteP_true ‹_› ?_ | refine iteP_false ‹_› ?_ | refine andK ?_ | refine andA ?_ | refine andT ?_); conv => whnf) | (refine iteP_intro (fun hb => ?_) (fun hb => ?_) <;> (conv => whnf)))
  (refine ⟨_, l01One_ret a (by omega), ?_⟩; conv => whnf)
  repeat' (first | ((first | refine opt_some (getC_rows rfl rfl (by omega)) ?_ | refine opt_some (by dsimp only; exact getC_lent rfl rfl (by omega)) ?_ | refine opt_some rfl ?_ | refine ⟨_, (by simp only [nf, nl, nm, en, ints, setC_setC, Nat.reduceAdd, Nat.reduceMul, hgb, ho2]; exact rfl), ?_⟩ | refine ⟨_, pickT rfl, ?_⟩ | refine ⟨_, rfl, ?_⟩ | refine iteP_true rfl ?_ | refine iteP_false rfl ?_ | refine iteP_true ‹_› ?_ | refine iteP_false ‹_› ?_ | refine andK ?_ | refine andA ?_ | refine andT ?_); conv => whnf) | (refine iteP_intro (fun hb => ?_) (fun hb => ?_) <;> (conv => whnf)))
  refine ⟨⟨by rw [Int.toNat_natCast, List.length_map, hnl1, hm1]; show b * 1 + 1 ≤ _; omega, plain_i64 _⟩, ?_⟩
  conv => whnf
  refine ⟨_, by simp only [nf, nl, nm, en, ints, setC_setC, Nat.reduceAdd, Nat.reduceMul]; rw [natI_splice rfl (by rw [hm1]; exact hb) rfl, ← hjn, hlen2], ?_⟩
  conv => whnf
  repeat' (first | ((first | refine opt_some (getC_rows rfl rfl (by omega)) ?_ | refine opt_some (by dsimp only; exact getC_lent rfl rfl (by omega)) ?_ | refine opt_some rfl ?_ | refine ⟨_, (by simp only [nf, nl, nm, en, ints, setC_setC, Nat.reduceAdd, Nat.reduceMul]; exact rfl), ?_⟩ | refine ⟨_, pickT rfl, ?_⟩ | refine ⟨_, rfl, ?_⟩ | refine iteP_true rfl ?_ | refine iteP_false rfl ?_ | refine iteP_true ‹_› ?_ | refine iteP_false ‹_› ?_ | refine andK ?_ | refine andA ?_ | refine andT ?_); conv => whnf) | (refine iteP_intro (fun hb => ?_) (fun hb => ?_) <;> (conv => whnf)))
  rfl
end Go.Proofs.YtihdeagknggeiaaDoor
