import Derived.Test.YtihdeagknggeiaaDoorFze
set_option autoImplicit false
set_option linter.unusedSimpArgs false
set_option linter.unusedVariables false
namespace Go.Proofs.YtihdeagknggeiaaDoor
open Go.Den
/-- What is remembered is right. -/
def KnownF (ms : List Nat) (es : Memo) : Prop := ∀ e ∈ es, e.1.1 < 2 ^ ms.length → e.2 = tlN ms e.1.2 e.1.1
theorem findF {ms : List Nat} {s n v : Nat} (hs : s < 2 ^ ms.length) : ∀ {es : Memo}, KnownF ms es → findM (s, n) es = some v → v = tlN ms n s
  | [], _, h => by cases h
  | e :: es, hk, h => by
    unfold findM at h
    split at h
    · rename_i he
      cases h
      have := hk e (by simp) (by rw [he]; exact hs)
      rw [he] at this
      exact this
    · exact findF hs (fun x hx => hk x (List.mem_cons_of_mem _ hx)) h
theorem addF_known {ms : List Nat} {k : Nat × Nat} {v : Nat} (hv : v = tlN ms k.2 k.1) : ∀ {es : Memo}, KnownF ms es → KnownF ms (addM k v es)
  | [], _ => fun x hx _ => by
    obtain rfl := List.mem_singleton.1 hx
    exact hv
  | e :: es, hk => by
    unfold addM
    split
    · rename_i he
      intro x hx hl
      rcases List.mem_cons.1 hx with rfl | hx
      · simp only; rw [he]; exact hv
      · exact hk x (List.mem_cons_of_mem _ hx) hl
    · intro x hx hl
      rcases List.mem_cons.1 hx with rfl | hx
      · exact hk _ (by simp) hl
      · exact addF_known hv (fun x hx => hk x (List.mem_cons_of_mem _ hx)) x hx hl
theorem min_step {a b L : Nat} : min (min a L + b) L = min (a + b) L := by omega
/-- The count of the letters so far. -/
def sumF (ms : List Nat) (n shut i : Nat) : Nat := min (smN (trmN ms n shut) i) 1000000000000001
theorem sumF_succ (ms : List Nat) (n shut i : Nat) : sumF ms n shut (i + 1) = min (sumF ms n shut i + trmN ms n shut i) 1000000000000001 := by
  unfold sumF
  rw [smN, min_step]
set_option maxHeartbeats 16000000 in
set_option maxRecDepth 100000 in
theorem newForms_ret (ms : List Nat) : Ret Tryd.prog G0 64 [⟨.ro, .one (ints (natI ms))⟩] ⟨.one (.ptr [.shd (ints (natI ms)), memoC []]), []⟩ := by
  unfold memoC
  (refine ret_of_den (E := en 7 [] (fun _ => []) (fun _ => [])) tt_ok mixed Tryd.func64 rfl rfl rfl rfl ?_; refine ⟨by simp, ?_⟩)
  repeat' (first | ((first | refine opt_some (getC_rows rfl rfl (by omega)) ?_ | refine opt_some (by dsimp only; exact getC_lent rfl rfl (by omega)) ?_ | refine opt_some rfl ?_ | refine ⟨_, (by simp only [nf, nl, nm, en, ints, setC_setC, Nat.reduceAdd, Nat.reduceMul]; exact rfl), ?_⟩ | refine ⟨_, pickT rfl, ?_⟩ | refine ⟨_, rfl, ?_⟩ | refine iteP_true rfl ?_ | refine iteP_false rfl ?_ | refine iteP_true ‹_› ?_ | refine iteP_false ‹_› ?_ | refine andK ?_ | refine andA ?_ | refine andT ?_); conv => whnf) | (refine iteP_intro (fun hb => ?_) (fun hb => ?_) <;> (conv => whnf)))
  rfl
set_option maxHeartbeats 16000000 in
set_option maxRecDepth 100000 in
theorem fcount_ex (ms : List Nat) (hA : Alpha ms) (hl : ms.length ≤ 8) : ∀ (n : Nat), n ≤ 24 → ∀ (shut : Nat) (es : Memo), shut < 2 ^ ms.length → KnownF ms es → ∃ r, (∃ es', r = ⟨.one (i64 (tlN ms n shut : Nat)), [.one (.ptr [.shd (ints (natI ms)), memoC es'])]⟩ ∧ KnownF ms es') ∧
    Ret Tryd.prog G0 66 [⟨.mu, .one (.ptr [.shd (ints (natI ms)), memoC es])⟩, ⟨.ro, .one (i64 shut)⟩, ⟨.ro, .one (i64 n)⟩] r := by
  intro n
  induction n with
  | zero =>
    intro hn shut es hs hk
    unfold memoC
    (refine rete_of_den (E := en 62 [] (fun _ => [(1, 0), (2, 0), (7, 0), (10, 0), (32, 0), (33, 0), (0, 0), (62, 2)]) (fun _ => [])) tt_ok mixed Tryd.func66 rfl rfl rfl rfl ?_; refine ⟨by simp, ?_⟩)
    repeat' (first | ((first | refine opt_some (getC_rows rfl rfl (by omega)) ?_ | refine opt_some (by dsimp only; exact getC_lent rfl rfl (by omega)) ?_ | refine opt_some rfl ?_ | refine ⟨_, (by simp only [nf, nl, nm, en, ints, setC_setC, Nat.reduceAdd, Nat.reduceMul]; exact rfl), ?_⟩ | refine ⟨_, pickT rfl, ?_⟩ | refine ⟨_, rfl, ?_⟩ | refine iteP_true rfl ?_ | refine iteP_false rfl ?_ | refine iteP_true ‹_› ?_ | refine iteP_false ‹_› ?_ | refine andK ?_ | refine andA ?_ | refine andT ?_); conv => whnf) | (refine iteP_intro (fun hb => ?_) (fun hb => ?_) <;> (conv => whnf)))
    exact hk
  | succ n ih =>
    intro hn shut es hs hk
    have hne : (((n + 1 : Nat) : Int) == 0) = false := by simp; omega
    have hnl := natI_length ms
    have hLe := length_ret (natI ms)
    have hp8 : 2 ^ ms.length ≤ 2 ^ 8 := Nat.pow_le_pow_right (by decide) hl
    have hsu := tlN_succ hl (m := n) hs
    rw [hnl] at hLe
    unfold memoC
    (refine rete_of_den (E := en 62 [] (fun _ => [(1, 0), (2, 0), (7, 0), (10, 0), (32, 0), (33, 0), (0, 0), (62, 2)]) (fun _ => [])) tt_ok mixed Tryd.func66 rfl rfl rfl rfl ?_; refine ⟨by simp, ?_⟩)
    repeat (first | ((first | refine opt_some (getC_rows rfl rfl (by omega)) ?_ | refine opt_some (by dsimp only; exact getC_lent rfl rfl (by omega)) ?_ | refine opt_some rfl ?_ | refine ⟨_, (by simp only [nf, nl, nm, en, ints, setC_setC, Nat.reduceAdd, Nat.reduceMul]; exact rfl), ?_⟩ | refine ⟨_, pickT rfl, ?_⟩ | refine ⟨_, rfl, ?_⟩ | refine iteP_true rfl ?_ | refine iteP_false rfl ?_ | refine iteP_true ‹_› ?_ | refine iteP_false ‹_› ?_ | refine andK ?_ | refine andA ?_ | refine andT ?_); conv => whnf))
    refine ⟨fun x hx => by obtain ⟨e, -, rfl⟩ := List.mem_map.1 hx; rfl, ?_⟩
    conv => whnf
    refine ⟨_, getM_memo (shut, n + 1) es, ?_⟩
    have hf0 : ∃ o, findM (shut, n + 1) es = o := ⟨_, rfl⟩
    obtain ⟨o, hf⟩ := hf0
    rw [hf]
    cases o with
    | some v =>
      have hv := findF hs hk hf
      refine optP.s ?_
      conv => whnf
      repeat' (first | ((first | refine opt_some (getC_rows rfl rfl (by omega)) ?_ | refine opt_some (by dsimp only; exact getC_lent rfl rfl (by omega)) ?_ | refine opt_some rfl ?_ | refine ⟨_, (by simp only [nf, nl, nm, en, ints, setC_setC, Nat.reduceAdd, Nat.reduceMul]; exact rfl), ?_⟩ | refine ⟨_, pickT rfl, ?_⟩ | refine ⟨_, rfl, ?_⟩ | refine iteP_true rfl ?_ | refine iteP_false rfl ?_ | refine iteP_true ‹_› ?_ | refine iteP_false ‹_› ?_ | refine andK ?_ | refine andA ?_ | refine andT ?_); conv => whnf) | (refine iteP_intro (fun hb => ?_) (fun hb => ?_) <;> (conv => whnf)))
      rw [hv]
      exact ⟨es, rfl, hk⟩
    | none =>
      refine optP.n ?_
      conv => whnf
      repeat (first | ((first | refine opt_some (getC_rows rfl rfl (by omega)) ?_ | refine opt_some (by dsimp only; exact getC_lent rfl rfl (by omega)) ?_ | refine opt_some rfl ?_ | refine ⟨_, (by simp only [nf, nl, nm, en, ints, setC_setC, Nat.reduceAdd, Nat.reduceMul]; exact rfl), ?_⟩ | refine ⟨_, pickT rfl, ?_⟩ | refine ⟨_, rfl, ?_⟩ | refine iteP_true rfl ?_ | refine iteP_false rfl ?_ | refine iteP_true ‹_› ?_ | refine iteP_false ‹_› ?_ | refine andK ?_ | refine andA ?_ | refine andT ?_); conv => whnf))
      (refine ⟨_, hLe, ?_⟩; conv => whnf)
      repeat (first | ((first | refine opt_some (getC_rows rfl rfl (by omega)) ?_ | refine opt_some (by dsimp only; exact getC_lent rfl rfl (by omega)) ?_ | refine opt_some rfl ?_ | refine ⟨_, (by simp only [nf, nl, nm, en, ints, setC_setC, Nat.reduceAdd, Nat.reduceMul]; exact rfl), ?_⟩ | refine ⟨_, pickT rfl, ?_⟩ | refine ⟨_, rfl, ?_⟩ | refine iteP_true rfl ?_ | refine iteP_false rfl ?_ | refine iteP_true ‹_› ?_ | refine iteP_false ‹_› ?_ | refine andK ?_ | refine andA ?_ | refine andT ?_); conv => whnf))
      refine ⟨fun k vs => ∃ (i : Nat) (es' : Memo), i ≤ ms.length ∧ KnownF ms es' ∧ vs = [.one (i64 shut), .one (i64 (n + 1 : Nat)), .one (.ptr [i64 shut, i64 (n + 1 : Nat)]), .one (i64 (sumF ms n shut i : Nat)), .one (i64 ms.length), .one (i64 i), .one (.ptr [.shd (ints (natI ms)), memoC es']), .dead] ∧ k = ms.length - i, rfl, ⟨_, 0, es, by omega, hk, rfl, rfl⟩, ?_⟩
      rintro k vs ⟨i, es', hi, hk', rfl, rfl⟩
      unfold memoC
      repeat (first | ((first | refine opt_some (getC_rows rfl rfl (by omega)) ?_ | refine opt_some (by dsimp only; exact getC_lent rfl rfl (by omega)) ?_ | refine opt_some rfl ?_ | refine ⟨_, (by simp only [nf, nl, nm, en, ints, setC_setC, Nat.reduceAdd, Nat.reduceMul]; exact rfl), ?_⟩ | refine ⟨_, pickT rfl, ?_⟩ | refine ⟨_, rfl, ?_⟩ | refine iteP_true rfl ?_ | refine iteP_false rfl ?_ | refine iteP_true ‹_› ?_ | refine iteP_false ‹_› ?_ | refine andK ?_ | refine andA ?_ | refine andT ?_); conv => whnf))
      refine iteP_intro (fun hb => ?_) (fun hb => ?_) <;> (conv => whnf)
      · have hi' : i < ms.length := by have := leT hb; omega
        have hs63 : shut < 2 ^ 63 := by omega
        have hH := has_ret shut i hs63 (by omega)
        have hsucc := sumF_succ ms n shut i
        by_cases hsb : shut.testBit i = true
        · have ht0 : trmN ms n shut i = 0 := by unfold trmN; rw [hsb]; rfl
          have hmin : sumF ms n shut (i + 1) = sumF ms n shut i := by rw [hsucc, ht0]; unfold sumF; omega
          rw [hsb] at hH
          repeat (first | ((first | refine opt_some (getC_rows rfl rfl (by omega)) ?_ | refine opt_some (by dsimp only; exact getC_lent rfl rfl (by omega)) ?_ | refine opt_some rfl ?_ | refine ⟨_, (by simp only [nf, nl, nm, en, ints, setC_setC, Nat.reduceAdd, Nat.reduceMul]; exact rfl), ?_⟩ | refine ⟨_, pickT rfl, ?_⟩ | refine ⟨_, rfl, ?_⟩ | refine iteP_true rfl ?_ | refine iteP_false rfl ?_ | refine iteP_true ‹_› ?_ | refine iteP_false ‹_› ?_ | refine andK ?_ | refine andA ?_ | refine andT ?_); conv => whnf))
          (refine ⟨_, hH, ?_⟩; conv => whnf)
          repeat (first | ((first | refine opt_some (getC_rows rfl rfl (by omega)) ?_ | refine opt_some (by dsimp only; exact getC_lent rfl rfl (by omega)) ?_ | refine opt_some rfl ?_ | refine ⟨_, (by simp only [nf, nl, nm, en, ints, setC_setC, Nat.reduceAdd, Nat.reduceMul]; exact rfl), ?_⟩ | refine ⟨_, pickT rfl, ?_⟩ | refine ⟨_, rfl, ?_⟩ | refine iteP_true rfl ?_ | refine iteP_false rfl ?_ | refine iteP_true ‹_› ?_ | refine iteP_false ‹_› ?_ | refine andK ?_ | refine andA ?_ | refine andT ?_); conv => whnf))
          refine ⟨_, ?_, i + 1, es', hi', hk', ?_, rfl⟩
          · omega
          · rw [wrap_succ (by omega), hmin]
            rfl
        · have hsb : shut.testBit i = false := by simpa using hsb
          have ht0 : trmN ms n shut i = tlN ms n (aftN ms shut i) := by unfold trmN; rw [hsb]; rfl
          rw [hsb] at hH
          have hF := forbidden_ret ms shut i hi' (by omega) hA.lt hs
          have hal := aftN_lt hl hs hi'
          have hn1 : IntKind.i64.wrap (((n + 1 : Nat) : Int) - 1) = (n : Int) := by rw [wrap_i64 (by omega) (by omega)]; omega
          have hrec := ih (by omega) (aftN ms shut i) es' hal hk'
          obtain ⟨r, ⟨es2, rfl, hk2⟩, hr⟩ := hrec
          have hsl : sumF ms n shut i ≤ 1000000000000001 := Nat.min_le_right _ _
          have htl := tlN_le ms n (aftN ms shut i)
          have hw : IntKind.i64.wrap (((sumF ms n shut i : Nat) : Int) + ((tlN ms n (aftN ms shut i) : Nat) : Int)) = ((sumF ms n shut i + tlN ms n (aftN ms shut i) : Nat) : Int) := by rw [wrap_i64 (by omega) (by omega)]; omega
          have hmc := min_cast (sumF ms n shut i + tlN ms n (aftN ms shut i))
          rw [← ht0, ← hsucc, ht0] at hmc
          unfold memoC at hr
          unfold aftN at hr hw hmc
          repeat (first | ((first | refine opt_some (getC_rows rfl rfl (by omega)) ?_ | refine opt_some (by dsimp only; exact getC_lent rfl rfl (by omega)) ?_ | refine opt_some rfl ?_ | refine ⟨_, (by simp only [nf, nl, nm, en, ints, setC_setC, Nat.reduceAdd, Nat.reduceMul]; exact rfl), ?_⟩ | refine ⟨_, pickT rfl, ?_⟩ | refine ⟨_, rfl, ?_⟩ | refine iteP_true rfl ?_ | refine iteP_false rfl ?_ | refine iteP_true ‹_› ?_ | refine iteP_false ‹_› ?_ | refine andK ?_ | refine andA ?_ | refine andT ?_); conv => whnf))
          (refine ⟨_, hH, ?_⟩; conv => whnf)
          repeat (first | ((first | refine opt_some (getC_rows rfl rfl (by omega)) ?_ | refine opt_some (by dsimp only; exact getC_lent rfl rfl (by omega)) ?_ | refine opt_some rfl ?_ | refine ⟨_, (by simp only [nf, nl, nm, en, ints, setC_setC, Nat.reduceAdd, Nat.reduceMul]; exact rfl), ?_⟩ | refine ⟨_, pickT rfl, ?_⟩ | refine ⟨_, rfl, ?_⟩ | refine iteP_true rfl ?_ | refine iteP_false rfl ?_ | refine iteP_true ‹_› ?_ | refine iteP_false ‹_› ?_ | refine andK ?_ | refine andA ?_ | refine andT ?_); conv => whnf))
          (refine ⟨_, hF, ?_⟩; conv => whnf)
          repeat (first | ((first | refine opt_some (getC_rows rfl rfl (by omega)) ?_ | refine opt_some (by dsimp only; exact getC_lent rfl rfl (by omega)) ?_ | refine opt_some rfl ?_ | refine ⟨_, (by simp only [nf, nl, nm, en, ints, setC_setC, Nat.reduceAdd, Nat.reduceMul, hn1]; exact rfl), ?_⟩ | refine ⟨_, pickT rfl, ?_⟩ | refine ⟨_, rfl, ?_⟩ | refine iteP_true rfl ?_ | refine iteP_false rfl ?_ | refine iteP_true ‹_› ?_ | refine iteP_false ‹_› ?_ | refine andK ?_ | refine andA ?_ | refine andT ?_); conv => whnf))
          (refine ⟨_, hr, ?_⟩; conv => whnf)
          repeat (first | ((first | refine opt_some (getC_rows rfl rfl (by omega)) ?_ | refine opt_some (by dsimp only; exact getC_lent rfl rfl (by omega)) ?_ | refine opt_some rfl ?_ | refine ⟨_, (by simp only [nf, nl, nm, en, ints, setC_setC, Nat.reduceAdd, Nat.reduceMul, hw, hmc]; exact rfl), ?_⟩ | refine ⟨_, pickT rfl, ?_⟩ | refine ⟨_, rfl, ?_⟩ | refine iteP_true rfl ?_ | refine iteP_false rfl ?_ | refine iteP_true ‹_› ?_ | refine iteP_false ‹_› ?_ | refine andK ?_ | refine andA ?_ | refine andT ?_); conv => whnf))
          refine ⟨_, ?_, i + 1, es2, hi', hk2, ?_, rfl⟩
          · omega
          · rw [wrap_succ (by omega)]
            rfl
      · have hie : i = ms.length := by have := leF hb; omega
        have hfin : sumF ms n shut i = tlN ms (n + 1) shut := by rw [hie, hsu]; rfl
        have hput := put_memo (shut, n + 1) (sumF ms n shut i) es'
        repeat (first | ((first | refine opt_some (getC_rows rfl rfl (by omega)) ?_ | refine opt_some (by dsimp only; exact getC_lent rfl rfl (by omega)) ?_ | refine opt_some rfl ?_ | refine ⟨_, (by simp only [nf, nl, nm, en, ints, setC_setC, Nat.reduceAdd, Nat.reduceMul]; exact rfl), ?_⟩ | refine ⟨_, pickT rfl, ?_⟩ | refine ⟨_, rfl, ?_⟩ | refine iteP_true rfl ?_ | refine iteP_false rfl ?_ | refine iteP_true ‹_› ?_ | refine iteP_false ‹_› ?_ | refine andK ?_ | refine andA ?_ | refine andT ?_); conv => whnf))
        refine ⟨fun x hx => by obtain ⟨e, -, rfl⟩ := List.mem_map.1 hx; rfl, ?_⟩
        conv => whnf
        repeat' (first | ((first | refine opt_some (getC_rows rfl rfl (by omega)) ?_ | refine opt_some (by dsimp only; exact getC_lent rfl rfl (by omega)) ?_ | refine opt_some rfl ?_ | refine ⟨_, (by simp only [nf, nl, nm, en, ints, setC_setC, Nat.reduceAdd, Nat.reduceMul]; exact rfl), ?_⟩ | refine ⟨_, pickT rfl, ?_⟩ | refine ⟨_, rfl, ?_⟩ | refine iteP_true rfl ?_ | refine iteP_false rfl ?_ | refine iteP_true ‹_› ?_ | refine iteP_false ‹_› ?_ | refine andK ?_ | refine andA ?_ | refine andT ?_); conv => whnf) | (refine iteP_intro (fun hb => ?_) (fun hb => ?_) <;> (conv => whnf)))
        dsimp only
        refine ⟨addM (shut, n + 1) (sumF ms n shut i) es', ?_, addF_known hfin hk'⟩
        rw [← hput.1, ← hput.2, hfin]
        rfl
end Go.Proofs.YtihdeagknggeiaaDoor
