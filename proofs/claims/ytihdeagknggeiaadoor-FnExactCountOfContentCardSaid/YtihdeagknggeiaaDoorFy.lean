import Derived.Test.YtihdeagknggeiaaDoorFx
set_option autoImplicit false
set_option linter.unusedSimpArgs false
set_option linter.unusedVariables false
namespace Go.Proofs.YtihdeagknggeiaaDoor
open Go.Den
theorem thrC_succ (c : List Nat) (i : Nat) : thrC c (i + 1) = thrC c i ||| (if 0 < c.getD i 0 then 2 ^ i else 0) := by
  unfold thrC
  rw [maskN_or]
  congr 1
  by_cases h : 0 < c.getD i 0 <;> simp [h]
theorem thrC_lt (c : List Nat) (i : Nat) : thrC c i < 2 ^ i := maskN_lt _ _
theorem sgC_mod (s : Nat) : (2 : Int) * ((popR 8 s : Nat) : Int).tmod 2 = 2 * ((popR 8 s % 2 : Nat) : Int) := by
  rw [Int.tmod_eq_emod_of_nonneg (by omega)]
  omega
set_option maxHeartbeats 16000000 in
set_option maxRecDepth 100000 in
theorem ccount_ex (S : List Nat) (n : Nat) (hn : n ≤ 8) (hSl : S.length ≤ 256) (hS : ∀ s ∈ S, s < 2 ^ n) : ∀ (k : Nat) (c : List Nat) (es : MemoZ), smC c = k → c.length = n → (∀ x ∈ c, x ≤ 24) → KnownZ S n es → ∃ r, (∃ es', r = ⟨.one (i64 (valC S c)), [.one (.ptr [.shd (ints (natI S)), memoZ es'])]⟩ ∧ KnownZ S n es') ∧
    Ret Tryd.prog G0 58 [⟨.mu, .one (.ptr [.shd (ints (natI S)), memoZ es])⟩, ⟨.ro, .one (ints (natI c))⟩] r := by
  intro k
  induction k using Nat.strongRecOn with
  | _ k ih =>
  intro c es hk hcl hc hkn
  have hcn := natI_length c
  have hSn := natI_length S
  have hp8 : 2 ^ n ≤ 2 ^ 8 := Nat.pow_le_pow_right (by decide) hn
  have hS63 : ∀ s ∈ S, s < 2 ^ 63 := fun s hs => by have := hS s hs; omega
  have hkey := keyA_lt hc
  have hci : ((n : Nat) : Int) = (((natI c).length : Nat) : Int) := by rw [hcn, hcl]
  unfold memoZ
  (refine rete_of_den (E := en 102 [] (fun | 3 => [(5, 0), (6, 0), (18, 0), (19, 0), (0, 0), (1, 1), (17, 1), (102, 2)] | 16 => [(5, 0), (6, 0), (11, 0), (54, 0), (55, 0), (0, 0), (1, 1), (53, 1), (102, 2)] | 21 => [(5, 0), (6, 0), (11, 0), (13, 0), (14, 0), (54, 0), (55, 0), (70, 0), (71, 0), (72, 0), (0, 0), (1, 1), (53, 1), (102, 2)] | _ => []) (fun _ => [])) tt_ok mixed Tryd.func58 rfl rfl rfl rfl ?_; refine ⟨by simp, ?_⟩)
  repeat' (first | ((first | refine opt_some (getC_rows rfl rfl (by omega)) ?_ | refine opt_some (by dsimp only; exact getC_lent rfl rfl (by omega)) ?_ | refine opt_some rfl ?_ | refine ⟨_, (by simp only [nf, nl, nm, en, ints, setC_setC, Nat.reduceAdd, Nat.reduceMul]; exact rfl), ?_⟩ | refine ⟨_, pickT rfl, ?_⟩ | refine ⟨_, rfl, ?_⟩ | refine iteP_true rfl ?_ | refine iteP_false rfl ?_ | refine iteP_true ‹_› ?_ | refine iteP_false ‹_› ?_ | refine andK ?_ | refine andA ?_ | refine andT ?_); conv => whnf) | (refine iteP_intro (fun hb => ?_) (fun hb => ?_) <;> (conv => whnf)))
  refine ⟨fun q vs => ∃ i : Nat, i ≤ n ∧ vs = [.one (i64 (keyA c i : Nat)), .one (i64 (thrC c i : Nat)), .one (i64 n), .one (i64 i), .one (.ptr [.shd (ints (natI S)), memoZ es]), .one (.shd (ints (natI c))), .one (.shd (ints (natI c))), .dead] ∧ q = n - i, rfl, ⟨_, 0, by omega, by rw [hci]; rfl, rfl⟩, ?_⟩
  rintro q vs ⟨i, hi, rfl, rfl⟩
  unfold memoZ
  repeat (first | ((first | refine opt_some (getC_rows rfl rfl (by omega)) ?_ | refine opt_some (by dsimp only; exact getC_lent rfl rfl (by omega)) ?_ | refine opt_some rfl ?_ | refine ⟨_, (by simp only [nf, nl, nm, en, ints, setC_setC, Nat.reduceAdd, Nat.reduceMul]; exact rfl), ?_⟩ | refine ⟨_, pickT rfl, ?_⟩ | refine ⟨_, rfl, ?_⟩ | refine iteP_true rfl ?_ | refine iteP_false rfl ?_ | refine iteP_true ‹_› ?_ | refine iteP_false ‹_› ?_ | refine andK ?_ | refine andA ?_ | refine andT ?_); conv => whnf))
  refine iteP_intro (fun hb => ?_) (fun hb => ?_) <;> (conv => whnf)
  · have hi' : i < n := by have := leT hb; omega
    have hgi : (natI c)[i]'(by omega) = ((c.getD i 0 : Nat) : Int) := natI_getD (by omega)
    have hx := getD_le hc i
    have hky := hkey i
    have hky1 := hkey (i + 1)
    have hp40 : 2 ^ (5 * (i + 1)) ≤ 2 ^ 40 := Nat.pow_le_pow_right (by decide) (by omega)
    have hpw : 2 ^ (5 * i) ≤ 2 ^ 35 := Nat.pow_le_pow_right (by decide) (by omega)
    have hks : keyA c (i + 1) = keyA c i + c.getD i 0 * 2 ^ (5 * i) := rfl
    have hts := thrC_succ c i
    have htl := thrC_lt c i
    have hpi : 2 ^ i ≤ 2 ^ 8 := Nat.pow_le_pow_right (by decide) (by omega)
    have e1 : IntKind.i64.wrap (5 * (i : Int)) = ((5 * i : Nat) : Int) := by rw [wrap_i64 (by omega) (by omega)]; omega
    have e2 : min (((5 * i : Nat) : Int)).toNat IntKind.i64.bits = 5 * i := by
      rw [Int.toNat_natCast]
      exact Nat.min_eq_left (show 5 * i ≤ 64 by omega)
    have hxv : ∃ x, c.getD i 0 = x := ⟨_, rfl⟩
    obtain ⟨x, hxe⟩ := hxv
    rw [hxe] at hgi hx hks hts
    have hmul : x * 2 ^ (5 * i) ≤ 24 * 2 ^ 35 := Nat.mul_le_mul hx hpw
    have e3 : IntKind.i64.wrap ((x : Int) * 2 ^ (5 * i)) = ((x * 2 ^ (5 * i) : Nat) : Int) := by
      rw [show (x : Int) * 2 ^ (5 * i) = ((x * 2 ^ (5 * i) : Nat) : Int) by rw [Int.natCast_mul, Int.natCast_pow]; rfl]
      exact wrap_i64 (by omega) (by omega)
    have e4 : IntKind.i64.wrap (((keyA c i : Nat) : Int) + ((x * 2 ^ (5 * i) : Nat) : Int)) = ((keyA c (i + 1) : Nat) : Int) := by
      rw [hks, wrap_i64 (by omega) (by omega)]
      omega
    by_cases hx0 : 0 < x
    · rw [if_pos hx0] at hts
      have hgt : decide ((x : Int) > 0) = true := decide_eq_true (by omega)
      have hO := one_retN i (by omega)
      have e5 := or_i64 (a := thrC c i) (b := 2 ^ i) (by omega) (Nat.pow_lt_pow_right (by decide) (by omega))
      rw [← hts] at e5
      repeat (first | ((first | refine opt_some (getC_rows rfl rfl (by omega)) ?_ | refine opt_some (by dsimp only; exact getC_lent rfl rfl (by omega)) ?_ | refine opt_some rfl ?_ | refine ⟨_, (by simp only [nf, nl, nm, en, ints, setC_setC, Nat.reduceAdd, Nat.reduceMul, hgi, e1, e2, e3, e4, hgt]; exact rfl), ?_⟩ | refine ⟨_, pickT rfl, ?_⟩ | refine ⟨_, rfl, ?_⟩ | refine iteP_true rfl ?_ | refine iteP_false rfl ?_ | refine iteP_true ‹_› ?_ | refine iteP_false ‹_› ?_ | refine andK ?_ | refine andA ?_ | refine andT ?_); conv => whnf))
      (refine ⟨_, hO, ?_⟩; conv => whnf)
      repeat (first | ((first | refine opt_some (getC_rows rfl rfl (by omega)) ?_ | refine opt_some (by dsimp only; exact getC_lent rfl rfl (by omega)) ?_ | refine opt_some rfl ?_ | refine ⟨_, (by simp only [nf, nl, nm, en, ints, setC_setC, Nat.reduceAdd, Nat.reduceMul, e5]; exact rfl), ?_⟩ | refine ⟨_, pickT rfl, ?_⟩ | refine ⟨_, rfl, ?_⟩ | refine iteP_true rfl ?_ | refine iteP_false rfl ?_ | refine iteP_true ‹_› ?_ | refine iteP_false ‹_› ?_ | refine andK ?_ | refine andA ?_ | refine andT ?_); conv => whnf))
      refine ⟨_, ?_, i + 1, hi', ?_, rfl⟩
      · omega
      · rw [wrap_succ (by omega)]
        rfl
    · rw [if_neg hx0, Nat.or_zero] at hts
      have hgt : decide ((x : Int) > 0) = false := decide_eq_false (by omega)
      repeat (first | ((first | refine opt_some (getC_rows rfl rfl (by omega)) ?_ | refine opt_some (by dsimp only; exact getC_lent rfl rfl (by omega)) ?_ | refine opt_some rfl ?_ | refine ⟨_, (by simp only [nf, nl, nm, en, ints, setC_setC, Nat.reduceAdd, Nat.reduceMul, hgi, e1, e2, e3, e4, hgt]; exact rfl), ?_⟩ | refine ⟨_, pickT rfl, ?_⟩ | refine ⟨_, rfl, ?_⟩ | refine iteP_true rfl ?_ | refine iteP_false rfl ?_ | refine iteP_true ‹_› ?_ | refine iteP_false ‹_› ?_ | refine andK ?_ | refine andA ?_ | refine andT ?_); conv => whnf))
      refine ⟨_, ?_, i + 1, hi', ?_, rfl⟩
      · omega
      · rw [wrap_succ (by omega), hts]
        rfl
  have hie : i = n := by have := leF hb; omega
  subst hie
  have htl := thrC_lt c i
  by_cases ht0 : thrC c i = 0
  · have hv := valC_one (S := S) (c := c) (by rw [hcl]; exact ht0)
    have heq : (((thrC c i : Nat) : Int) == 0) = true := by rw [ht0]; rfl
    rw [hv]
    repeat' (first | ((first | refine opt_some (getC_rows rfl rfl (by omega)) ?_ | refine opt_some (by dsimp only; exact getC_lent rfl rfl (by omega)) ?_ | refine opt_some rfl ?_ | refine ⟨_, (by simp only [nf, nl, nm, en, ints, setC_setC, Nat.reduceAdd, Nat.reduceMul, heq]; exact rfl), ?_⟩ | refine ⟨_, pickT rfl, ?_⟩ | refine ⟨_, rfl, ?_⟩ | refine iteP_true rfl ?_ | refine iteP_false rfl ?_ | refine iteP_true ‹_› ?_ | refine iteP_false ‹_› ?_ | refine andK ?_ | refine andA ?_ | refine andT ?_); conv => whnf) | (refine iteP_intro (fun hb => ?_) (fun hb => ?_) <;> (conv => whnf)))
    exact hkn
  have heq : (((thrC c i : Nat) : Int) == 0) = false := by
    rw [beq_eq_false_iff_ne]
    omega
  have hrec := valC_rec hS63 (c := c) (by rw [hcl]; exact ht0)
  repeat (first | ((first | refine opt_some (getC_rows rfl rfl (by omega)) ?_ | refine opt_some (by dsimp only; exact getC_lent rfl rfl (by omega)) ?_ | refine opt_some rfl ?_ | refine ⟨_, (by simp only [nf, nl, nm, en, ints, setC_setC, Nat.reduceAdd, Nat.reduceMul, heq]; exact rfl), ?_⟩ | refine ⟨_, pickT rfl, ?_⟩ | refine ⟨_, rfl, ?_⟩ | refine iteP_true rfl ?_ | refine iteP_false rfl ?_ | refine iteP_true ‹_› ?_ | refine iteP_false ‹_› ?_ | refine andK ?_ | refine andA ?_ | refine andT ?_); conv => whnf))
  refine ⟨fun x hx => by obtain ⟨e, -, rfl⟩ := List.mem_map.1 hx; rfl, ?_⟩
  conv => whnf
  refine ⟨_, getM_gen (kv := keyN) (cv := fun n : Int => i64 n) keyEq_N (keyA c i) es, ?_⟩
  have hf0 : ∃ o, findG (keyA c i) es = o := ⟨_, rfl⟩
  obtain ⟨o, hf⟩ := hf0
  rw [hf]
  cases o with
  | some v =>
    have hv := hkn _ (findG_mem hf) c hcl hc rfl
    dsimp only at hv
    refine optP.s ?_
    conv => whnf
    repeat' (first | ((first | refine opt_some (getC_rows rfl rfl (by omega)) ?_ | refine opt_some (by dsimp only; exact getC_lent rfl rfl (by omega)) ?_ | refine opt_some rfl ?_ | refine ⟨_, (by simp only [nf, nl, nm, en, ints, setC_setC, Nat.reduceAdd, Nat.reduceMul]; exact rfl), ?_⟩ | refine ⟨_, pickT rfl, ?_⟩ | refine ⟨_, rfl, ?_⟩ | refine iteP_true rfl ?_ | refine iteP_false rfl ?_ | refine iteP_true ‹_› ?_ | refine iteP_false ‹_› ?_ | refine andK ?_ | refine andA ?_ | refine andT ?_); conv => whnf) | (refine iteP_intro (fun hb => ?_) (fun hb => ?_) <;> (conv => whnf)))
    rw [hv]
    exact ⟨es, rfl, hkn⟩
  | none =>
    refine optP.n ?_
    conv => whnf
    repeat (first | ((first | refine opt_some (getC_rows rfl rfl (by omega)) ?_ | refine opt_some (by dsimp only; exact getC_lent rfl rfl (by omega)) ?_ | refine opt_some rfl ?_ | refine ⟨_, (by simp only [nf, nl, nm, en, ints, setC_setC, Nat.reduceAdd, Nat.reduceMul]; exact rfl), ?_⟩ | refine ⟨_, pickT rfl, ?_⟩ | refine ⟨_, rfl, ?_⟩ | refine iteP_true rfl ?_ | refine iteP_false rfl ?_ | refine iteP_true ‹_› ?_ | refine iteP_false ‹_› ?_ | refine andK ?_ | refine andA ?_ | refine andT ?_); conv => whnf))
    refine ⟨fun q vs => ∃ (j : Nat) (es' : MemoZ), j ≤ S.length ∧ KnownZ S i es' ∧ vs = [.one (i64 (keyA c i : Nat)), .one (i64 (thrC c i : Nat)), .one (i64 (accC S c j)), .one (i64 S.length), .one (i64 j), .one (.ptr [.shd (ints (natI S)), memoZ es']), .one (.shd (ints (natI c))), .one (.shd (ints (natI S))), .dead] ∧ q = S.length - j, rfl, ⟨_, 0, es, by omega, hkn, by rw [← hSn]; rfl, rfl⟩, ?_⟩
    rintro q vs ⟨j, es', hj, hkn', rfl, rfl⟩
    unfold memoZ
    repeat (first | ((first | refine opt_some (getC_rows rfl rfl (by omega)) ?_ | refine opt_some (by dsimp only; exact getC_lent rfl rfl (by omega)) ?_ | refine opt_some rfl ?_ | refine ⟨_, (by simp only [nf, nl, nm, en, ints, setC_setC, Nat.reduceAdd, Nat.reduceMul]; exact rfl), ?_⟩ | refine ⟨_, pickT rfl, ?_⟩ | refine ⟨_, rfl, ?_⟩ | refine iteP_true rfl ?_ | refine iteP_false rfl ?_ | refine iteP_true ‹_› ?_ | refine iteP_false ‹_› ?_ | refine andK ?_ | refine andA ?_ | refine andT ?_); conv => whnf))
    refine iteP_intro (fun hb2 => ?_) (fun hb2 => ?_) <;> (conv => whnf)
    · have hj' : j < S.length := by have := leT hb2; omega
      have hgj : (natI S)[j]'(by omega) = ((S[j] : Nat) : Int) := natI_get _
      have hs0 : ∃ s, S[j] = s := ⟨_, rfl⟩
      obtain ⟨s, hs⟩ := hs0
      have hsm : s ∈ S := by rw [← hs]; exact List.getElem_mem hj'
      have hsn := hS s hsm
      have hs63 := hS63 s hsm
      have hac := accC_succ (c := c) hj' hs
      rw [hs] at hgj
      have e1 := andn_i64 (a := s) (b := thrC c i) hs63 (by omega)
      by_cases hz : s = 0
      · have huse : useC c s = false := by unfold useC; rw [decide_eq_false (by omega)]; rfl
        rw [huse, if_neg (by simp)] at hac
        have hs0 : (((s : Nat) : Int) == 0) = true := by rw [hz]; rfl
        repeat (first | ((first | refine opt_some (getC_rows rfl rfl (by omega)) ?_ | refine opt_some (by dsimp only; exact getC_lent rfl rfl (by omega)) ?_ | refine opt_some rfl ?_ | refine ⟨_, (by simp only [nf, nl, nm, en, ints, setC_setC, Nat.reduceAdd, Nat.reduceMul, hgj, hs0]; exact rfl), ?_⟩ | refine ⟨_, pickT rfl, ?_⟩ | refine ⟨_, rfl, ?_⟩ | refine iteP_true rfl ?_ | refine iteP_false rfl ?_ | refine iteP_true ‹_› ?_ | refine iteP_false ‹_› ?_ | refine andK ?_ | refine andA ?_ | refine andT ?_); conv => whnf))
        refine ⟨_, ?_, j + 1, es', hj', hkn', ?_, rfl⟩
        · omega
        · rw [wrap_succ (by omega), hac]
          rfl
      have hs0 : (((s : Nat) : Int) == 0) = false := by
        rw [beq_eq_false_iff_ne]
        omega
      by_cases ha0 : andn s (thrC c i) = 0
      rotate_left
      · have huse : useC c s = false := by unfold useC; rw [hcl, decide_eq_false ha0, Bool.and_false]
        rw [huse, if_neg (by simp)] at hac
        have hn0 : (((andn s (thrC c i) : Nat) : Int) != 0) = true := by
          rw [bne_iff_ne]
          omega
        repeat (first | ((first | refine opt_some (getC_rows rfl rfl (by omega)) ?_ | refine opt_some (by dsimp only; exact getC_lent rfl rfl (by omega)) ?_ | refine opt_some rfl ?_ | refine ⟨_, (by simp only [nf, nl, nm, en, ints, setC_setC, Nat.reduceAdd, Nat.reduceMul, hgj, hs0, e1, hn0]; exact rfl), ?_⟩ | refine ⟨_, pickT rfl, ?_⟩ | refine ⟨_, rfl, ?_⟩ | refine iteP_true rfl ?_ | refine iteP_false rfl ?_ | refine iteP_true ‹_› ?_ | refine iteP_false ‹_› ?_ | refine andK ?_ | refine andA ?_ | refine andT ?_); conv => whnf))
        refine ⟨_, ?_, j + 1, es', hj', hkn', ?_, rfl⟩
        · omega
        · rw [wrap_succ (by omega), hac]
          rfl
      have huse : useC c s = true := by
        unfold useC
        rw [hcl, decide_eq_true ha0, decide_eq_true hz]
        rfl
      rw [huse, if_pos rfl] at hac
      have hn0 : (((andn s (thrC c i) : Nat) : Int) != 0) = false := by rw [ha0]; rfl
      obtain ⟨-, hbits⟩ := useC_bits hs63 huse
      have hcl2 := clone_ret (natI c) (by omega)
      have hmb := members_ret s hs63
      have hml : (mems s).length ≤ 64 := mems_length s
      have hmn := natI_length (mems s)
      have hls := lessC_sum hs63 huse
      have hnd := mems_nodup s
      have hSz := size_ret s (by omega)
      have hlall := lessL_all (s := s) (c := c) (by omega)
      have hln := lessC_len s c
      repeat (first | ((first | refine opt_some (getC_rows rfl rfl (by omega)) ?_ | refine opt_some (by dsimp only; exact getC_lent rfl rfl (by omega)) ?_ | refine opt_some rfl ?_ | refine ⟨_, (by simp only [nf, nl, nm, en, ints, setC_setC, Nat.reduceAdd, Nat.reduceMul, hgj, hs0, e1, hn0]; exact rfl), ?_⟩ | refine ⟨_, pickT rfl, ?_⟩ | refine ⟨_, rfl, ?_⟩ | refine iteP_true rfl ?_ | refine iteP_false rfl ?_ | refine iteP_true ‹_› ?_ | refine iteP_false ‹_› ?_ | refine andK ?_ | refine andA ?_ | refine andT ?_); conv => whnf))
      (refine ⟨_, hcl2, ?_⟩; conv => whnf)
      repeat (first | ((first | refine opt_some (getC_rows rfl rfl (by omega)) ?_ | refine opt_some (by dsimp only; exact getC_lent rfl rfl (by omega)) ?_ | refine opt_some rfl ?_ | refine ⟨_, (by simp only [nf, nl, nm, en, ints, setC_setC, Nat.reduceAdd, Nat.reduceMul]; exact rfl), ?_⟩ | refine ⟨_, pickT rfl, ?_⟩ | refine ⟨_, rfl, ?_⟩ | refine iteP_true rfl ?_ | refine iteP_false rfl ?_ | refine iteP_true ‹_› ?_ | refine iteP_false ‹_› ?_ | refine andK ?_ | refine andA ?_ | refine andT ?_); conv => whnf))
      (refine ⟨_, hmb, ?_⟩; conv => whnf)
      repeat (first | ((first | refine opt_some (getC_rows rfl rfl (by omega)) ?_ | refine opt_some (by dsimp only; exact getC_lent rfl rfl (by omega)) ?_ | refine opt_some rfl ?_ | refine ⟨_, (by simp only [nf, nl, nm, en, ints, setC_setC, Nat.reduceAdd, Nat.reduceMul]; exact rfl), ?_⟩ | refine ⟨_, pickT rfl, ?_⟩ | refine ⟨_, rfl, ?_⟩ | refine iteP_true rfl ?_ | refine iteP_false rfl ?_ | refine iteP_true ‹_› ?_ | refine iteP_false ‹_› ?_ | refine andK ?_ | refine andA ?_ | refine andT ?_); conv => whnf))
      refine ⟨fun q vs => ∃ m : Nat, m ≤ (mems s).length ∧ vs = [.one (i64 (keyA c i : Nat)), .one (i64 (thrC c i : Nat)), .one (i64 (accC S c j)), .one (i64 s), .one (ints (natI (lessL ((mems s).take m) c))), .one (i64 S.length), .one (i64 j), .one (ints (natI (mems s))), .one (i64 (mems s).length), .one (i64 m), .one (.ptr [.shd (ints (natI S)), memoZ es']), .one (.shd (ints (natI c))), .one (.shd (ints (natI S))), .dead] ∧ q = (mems s).length - m, rfl, ⟨_, 0, by omega, ?_, rfl⟩, ?_⟩
      · rw [List.take_zero, lessL_nil, ← hmn]
        rfl
      rintro q vs ⟨m, hm, rfl, rfl⟩
      have hll := lessL_len ((mems s).take m) c
      have hlln := natI_length (lessL ((mems s).take m) c)
      have hm1 : ((natI (lessL ((mems s).take m) c)).map i64).length = (natI (lessL ((mems s).take m) c)).length := List.length_map _
      unfold memoZ
      repeat (first | ((first | refine opt_some (getC_rows rfl rfl (by omega)) ?_ | refine opt_some (by dsimp only; exact getC_lent rfl rfl (by omega)) ?_ | refine opt_some rfl ?_ | refine ⟨_, (by simp only [nf, nl, nm, en, ints, setC_setC, Nat.reduceAdd, Nat.reduceMul]; exact rfl), ?_⟩ | refine ⟨_, pickT rfl, ?_⟩ | refine ⟨_, rfl, ?_⟩ | refine iteP_true rfl ?_ | refine iteP_false rfl ?_ | refine iteP_true ‹_› ?_ | refine iteP_false ‹_› ?_ | refine andK ?_ | refine andA ?_ | refine andT ?_); conv => whnf))
      refine iteP_intro (fun hb3 => ?_) (fun hb3 => ?_) <;> (conv => whnf)
      · have hm' : m < (mems s).length := by have := leT hb3; omega
        have hgm : (natI (mems s))[m]'(by omega) = (((mems s)[m] : Nat) : Int) := natI_get _
        have ha0 : ∃ a, (mems s)[m] = a := ⟨_, rfl⟩
        obtain ⟨a, ha⟩ := ha0
        have ham : a ∈ mems s := by rw [← ha]; exact List.getElem_mem hm'
        have hab : s.testBit a = true := (List.mem_filter.1 ham).2
        obtain ⟨hal, hap⟩ := hbits a hab
        have hts : (mems s).take (m + 1) = (mems s).take m ++ [a] := by rw [List.take_add_one, List.getElem?_eq_getElem hm', ha]; rfl
        have hnm : a ∉ (mems s).take m := fun hh => by
          have h2 := hnd.sublist (List.take_sublist (m + 1) (mems s))
          rw [hts] at h2
          exact (List.nodup_append.1 h2).2.2 _ hh _ (by simp) rfl
        have hset := lessL_set hal hnm hap
        have hgl := lessL_get ((mems s).take m) c hal
        rw [if_neg hnm, Nat.sub_zero] at hgl
        have hga : (natI (lessL ((mems s).take m) c))[a]'(by omega) = ((c.getD a 0 : Nat) : Int) := by rw [natI_getD (by omega), hgl]
        have hx := getD_le hc a
        have e2 : IntKind.i64.wrap (((c.getD a 0 : Nat) : Int) - 1) = ((c.getD a 0 - 1 : Nat) : Int) := by rw [wrap_i64 (by omega) (by omega)]; omega
        have hsp : splice ((natI (lessL ((mems s).take m) c)).map i64) (((a : Nat) : Int).toNat * 1) [Cell.c (.int .i64 ((c.getD a 0 - 1 : Nat) : Int))] = (natI (lessL ((mems s).take (m + 1)) c)).map i64 := by
          rw [hts, ← hset, hgl, ← natI_set]
          exact splice_at rfl (by omega)
        rw [ha] at hgm
        repeat (first | ((first | refine opt_some (getC_rows rfl rfl (by omega)) ?_ | refine opt_some (by dsimp only; exact getC_lent rfl rfl (by omega)) ?_ | refine opt_some rfl ?_ | refine ⟨_, (by simp only [nf, nl, nm, en, ints, setC_setC, Nat.reduceAdd, Nat.reduceMul, hgm, hga, e2]; exact rfl), ?_⟩ | refine ⟨_, pickT rfl, ?_⟩ | refine ⟨_, rfl, ?_⟩ | refine iteP_true rfl ?_ | refine iteP_false rfl ?_ | refine iteP_true ‹_› ?_ | refine iteP_false ‹_› ?_ | refine andK ?_ | refine andA ?_ | refine andT ?_); conv => whnf))
        refine ⟨⟨by dsimp only; omega, plain_i64 _⟩, ?_⟩
        conv => whnf
        repeat (first | ((first | refine opt_some (getC_rows rfl rfl (by omega)) ?_ | refine opt_some (by dsimp only; exact getC_lent rfl rfl (by omega)) ?_ | refine opt_some rfl ?_ | refine ⟨_, (by simp only [nf, nl, nm, en, ints, setC_setC, Nat.reduceAdd, Nat.reduceMul, hsp]; exact rfl), ?_⟩ | refine ⟨_, pickT rfl, ?_⟩ | refine ⟨_, rfl, ?_⟩ | refine iteP_true rfl ?_ | refine iteP_false rfl ?_ | refine iteP_true ‹_› ?_ | refine iteP_false ‹_› ?_ | refine andK ?_ | refine andA ?_ | refine andT ?_); conv => whnf))
        refine ⟨_, ?_, m + 1, hm', ?_, rfl⟩
        · omega
        · have hll2 := lessL_len ((mems s).take (m + 1)) c
          have hlln2 := natI_length (lessL ((mems s).take (m + 1)) c)
          rw [wrap_succ (by omega), show (natI (lessL ((mems s).take m) c)).length = (natI (lessL ((mems s).take (m + 1)) c)).length by omega]
          rfl
      · have hme : m = (mems s).length := by have := leF hb3; omega
        have hlf : lessL ((mems s).take m) c = lessC s c := by rw [hme, List.take_length, hlall]
        rw [hlf]
        have hrc := ih (smC (lessC s c)) (by omega) (lessC s c) es' rfl (by omega) (fun x hx => by
          obtain ⟨a, ha, rfl⟩ := List.getElem_of_mem hx
          have h1 := lessC_get s c (a := a) (by omega)
          rw [List.getD_eq_getElem?_getD, List.getElem?_eq_getElem ha, Option.getD_some] at h1
          have := getD_le hc a
          omega) hkn'
        obtain ⟨r2, ⟨es2, rfl, hk2⟩, hr2⟩ := hrc
        have hsg : sgC s = 2 * ((popR 8 s % 2 : Nat) : Int) - 1 := rfl
        have hmd := sgC_mod s
        have e2 : IntKind.i64.wrap (2 * ((popR 8 s : Nat) : Int).tmod 2) = 2 * ((popR 8 s % 2 : Nat) : Int) := by rw [hmd]; exact wrap_i64 (by omega) (by omega)
        have e3 : IntKind.i64.wrap (2 * ((popR 8 s % 2 : Nat) : Int) - 1) = sgC s := by rw [hsg]; exact wrap_i64 (by omega) (by omega)
        unfold memoZ at hr2
        repeat (first | ((first | refine opt_some (getC_rows rfl rfl (by omega)) ?_ | refine opt_some (by dsimp only; exact getC_lent rfl rfl (by omega)) ?_ | refine opt_some rfl ?_ | refine ⟨_, (by simp only [nf, nl, nm, en, ints, setC_setC, Nat.reduceAdd, Nat.reduceMul]; exact rfl), ?_⟩ | refine ⟨_, pickT rfl, ?_⟩ | refine ⟨_, rfl, ?_⟩ | refine iteP_true rfl ?_ | refine iteP_false rfl ?_ | refine iteP_true ‹_› ?_ | refine iteP_false ‹_› ?_ | refine andK ?_ | refine andA ?_ | refine andT ?_); conv => whnf))
        (refine ⟨_, hSz, ?_⟩; conv => whnf)
        repeat (first | ((first | refine opt_some (getC_rows rfl rfl (by omega)) ?_ | refine opt_some (by dsimp only; exact getC_lent rfl rfl (by omega)) ?_ | refine opt_some rfl ?_ | refine ⟨_, (by simp only [nf, nl, nm, en, ints, setC_setC, Nat.reduceAdd, Nat.reduceMul, e2, e3]; exact rfl), ?_⟩ | refine ⟨_, pickT rfl, ?_⟩ | refine ⟨_, rfl, ?_⟩ | refine iteP_true rfl ?_ | refine iteP_false rfl ?_ | refine iteP_true ‹_› ?_ | refine iteP_false ‹_› ?_ | refine andK ?_ | refine andA ?_ | refine andT ?_); conv => whnf))
        (refine ⟨_, hr2, ?_⟩; conv => whnf)
        repeat (first | ((first | refine opt_some (getC_rows rfl rfl (by omega)) ?_ | refine opt_some (by dsimp only; exact getC_lent rfl rfl (by omega)) ?_ | refine opt_some rfl ?_ | refine ⟨_, (by simp only [nf, nl, nm, en, ints, setC_setC, Nat.reduceAdd, Nat.reduceMul]; exact rfl), ?_⟩ | refine ⟨_, pickT rfl, ?_⟩ | refine ⟨_, rfl, ?_⟩ | refine iteP_true rfl ?_ | refine iteP_false rfl ?_ | refine iteP_true ‹_› ?_ | refine iteP_false ‹_› ?_ | refine andK ?_ | refine andA ?_ | refine andT ?_); conv => whnf))
        refine ⟨_, ?_, j + 1, es2, hj', hk2, ?_, rfl⟩
        · omega
        · rw [wrap_succ (by omega), hac]
          rfl
    · have hje : j = S.length := by have := leF hb2; omega
      have hput := putM_gen (kv := keyN) (cv := fun n : Int => i64 n) keyEq_N (keyA c i) (accC S c j) es'
      have hfin : accC S c j = valC S c := by rw [hrec, hje]
      have hadd := addZ_known hkn' hcl hc
      repeat (first | ((first | refine opt_some (getC_rows rfl rfl (by omega)) ?_ | refine opt_some (by dsimp only; exact getC_lent rfl rfl (by omega)) ?_ | refine opt_some rfl ?_ | refine ⟨_, (by simp only [nf, nl, nm, en, ints, setC_setC, Nat.reduceAdd, Nat.reduceMul]; exact rfl), ?_⟩ | refine ⟨_, pickT rfl, ?_⟩ | refine ⟨_, rfl, ?_⟩ | refine iteP_true rfl ?_ | refine iteP_false rfl ?_ | refine iteP_true ‹_› ?_ | refine iteP_false ‹_› ?_ | refine andK ?_ | refine andA ?_ | refine andT ?_); conv => whnf))
      refine ⟨fun x hx => by obtain ⟨e, -, rfl⟩ := List.mem_map.1 hx; rfl, ?_⟩
      conv => whnf
      repeat' (first | ((first | refine opt_some (getC_rows rfl rfl (by omega)) ?_ | refine opt_some (by dsimp only; exact getC_lent rfl rfl (by omega)) ?_ | refine opt_some rfl ?_ | refine ⟨_, (by simp only [nf, nl, nm, en, ints, setC_setC, Nat.reduceAdd, Nat.reduceMul]; exact rfl), ?_⟩ | refine ⟨_, pickT rfl, ?_⟩ | refine ⟨_, rfl, ?_⟩ | refine iteP_true rfl ?_ | refine iteP_false rfl ?_ | refine iteP_true ‹_› ?_ | refine iteP_false ‹_› ?_ | refine andK ?_ | refine andA ?_ | refine andT ?_); conv => whnf) | (refine iteP_intro (fun hb => ?_) (fun hb => ?_) <;> (conv => whnf)))
      dsimp only
      refine ⟨addG (keyA c i) (valC S c) es', ?_, hadd⟩
      rw [hfin] at hput
      rw [← hput.1, ← hput.2, hfin]
      rfl
end Go.Proofs.YtihdeagknggeiaaDoor
