import Derived.Test.YtpopepcmfanegaaDoorFr
set_option autoImplicit false
set_option linter.unusedSimpArgs false
set_option linter.unusedVariables false
namespace Go.Proofs.YtpopepcmfanegaaDoor
open Go.Den
/-- Which letters have no image. -/
def noImg (im : List (List Nat)) (a : Nat) : Bool := decide ((im.getD a []).length = 0)
/-- What ErasedLetters answers. -/
def eraR (n : Int) (ds : List Int) (m : Int) (es : List Int) (rs : List (List Int)) : Nat × Int :=
  if morphC n ds m es rs true = 0 then (maskN (noImg (rs.map (·.map Int.toNat))) rs.length, 0) else (0, morphC n ds m es rs true)
theorem eraR_bad {n : Int} {ds : List Int} {m : Int} {es : List Int} {rs : List (List Int)} (h : morphC n ds m es rs true ≠ 0) : eraR n ds m es rs = (0, morphC n ds m es rs true) := by
  unfold eraR
  rw [if_neg h]
theorem eraR_ok {n : Int} {ds : List Int} {m : Int} {es : List Int} {rs : List (List Int)} {im : List (List Nat)} (h : morphC n ds m es rs true = 0) (e3 : rs.map (·.map Int.toNat) = im) : eraR n ds m es rs = (maskN (noImg im) im.length, 0) := by
  unfold eraR
  rw [if_pos h, ← e3, List.length_map]
theorem rows_get_len {im : List (List Nat)} {a : Nat} (ha : a < im.length) (h2 : a < (im.map natI).length) : ((im.map natI)[a]'h2).length = (im.getD a []).length := by rw [rows_get ha h2, natI_length]
set_option maxHeartbeats 4000000 in
set_option maxRecDepth 100000 in
theorem erasedI_ret (n m : Int) (ds es : List Int) (rs : List (List Int)) (hd : ds.length < 2 ^ 62) (he : es.length < 2 ^ 62) (hw : rs.length < 2 ^ 62) (hx : ∀ r ∈ rs, r.length < 2 ^ 62) : Ret Tryd.prog G0 30 [⟨.ro, .agg [i64 n, ints ds]⟩, ⟨.ro, .agg [i64 m, ints es]⟩, ⟨.ro, .one (rowsI rs)⟩] ⟨.tup [(false, [i64 ((eraR n ds m es rs).1 : Nat)]), (false, [i64 (eraR n ds m es rs).2])], []⟩ := by
  have hc := checkMor_ret n m ds es rs [] [] hd he hw hx (by simp) (by simp)
  rw [show wordN n [] = true from rfl, show wordN m [] = true from rfl, Bool.and_true] at hc
  unfold rowsI at hc ⊢
  by_cases h : morphC n ds m es rs true = 0
  · obtain ⟨ms, ks, im, e1, e2, e3, rfl, rfl, hl1, hA, rfl, rfl, hl2, hB, rfl, hi, hws, -⟩ := morph_ok h
    have hr := eraR_ok h e3
    have hil : (im.map natI).length = im.length := List.length_map _
    rw [h] at hc
    rw [hr]
    (refine ret_of_den (E := en 35 [] (fun _ => [(9, 0), (20, 0), (21, 0), (19, 1)]) (fun _ => [])) tt_ok mixed Tryd.func30 rfl rfl rfl rfl ?_; refine ⟨by simp, ?_⟩)
    repeat' (first | ((first | refine opt_some (getC_rows rfl rfl (by omega)) ?_ | refine opt_some (by dsimp only; exact getC_lent rfl rfl (by omega)) ?_ | refine opt_some rfl ?_ | refine ⟨_, (by simp only [nf, nl, nm, en, ints, setC_setC, Nat.reduceAdd, Nat.reduceMul]; exact rfl), ?_⟩ | refine ⟨_, pickT rfl, ?_⟩ | refine ⟨_, rfl, ?_⟩ | refine iteP_true rfl ?_ | refine iteP_false rfl ?_ | refine iteP_true ‹_› ?_ | refine iteP_false ‹_› ?_ | refine andK ?_ | refine andA ?_ | refine andT ?_); conv => whnf) | (refine iteP_intro (fun hb => ?_) (fun hb => ?_) <;> (conv => whnf)))
    (refine ⟨_, hc.args (.same _ (.same _ (.same _ (.ro (.nil _ _) (.ro (.nil _ _) .nil))))), ?_⟩; conv => whnf)
    repeat' (first | ((first | refine opt_some (getC_rows rfl rfl (by omega)) ?_ | refine opt_some (by dsimp only; exact getC_lent rfl rfl (by omega)) ?_ | refine opt_some rfl ?_ | refine ⟨_, (by simp only [nf, nl, nm, en, ints, setC_setC, Nat.reduceAdd, Nat.reduceMul]; exact rfl), ?_⟩ | refine ⟨_, pickT rfl, ?_⟩ | refine ⟨_, rfl, ?_⟩ | refine iteP_true rfl ?_ | refine iteP_false rfl ?_ | refine iteP_true ‹_› ?_ | refine iteP_false ‹_› ?_ | refine andK ?_ | refine andA ?_ | refine andT ?_); conv => whnf) | (refine iteP_intro (fun hb => ?_) (fun hb => ?_) <;> (conv => whnf)))
    refine ⟨fun k vs => ∃ i : Nat, i ≤ im.length ∧ vs = [.one (i64 (maskN (noImg im) i : Nat)), .one (i64 (im.map natI).length), .one (i64 i), .one (.shd (.sl false 1 (im.map natI).length ((im.map natI).map ints)))] ∧ k = im.length - i, rfl, ⟨_, 0, by omega, rfl, rfl⟩, ?_⟩
    rintro k vs ⟨i, hi', rfl, rfl⟩
    repeat (first | ((first | refine opt_some (getC_rows rfl rfl (by omega)) ?_ | refine opt_some (by dsimp only; exact getC_lent rfl rfl (by omega)) ?_ | refine opt_some rfl ?_ | refine ⟨_, (by simp only [nf, nl, nm, en, ints, setC_setC, Nat.reduceAdd, Nat.reduceMul]; exact rfl), ?_⟩ | refine ⟨_, pickT rfl, ?_⟩ | refine ⟨_, rfl, ?_⟩ | refine iteP_true rfl ?_ | refine iteP_false rfl ?_ | refine iteP_true ‹_› ?_ | refine iteP_false ‹_› ?_ | refine andK ?_ | refine andA ?_ | refine andT ?_); conv => whnf))
    refine iteP_intro (fun hb => ?_) (fun hb => ?_) <;> (conv => whnf)
    · have hi'' : i < im.length := by have := leT hb; omega
      have hgl := rows_get_len hi'' (by omega)
      have hor := or_i64 (a := maskN (noImg im) i) (b := 2 ^ i) (maskN_lt63 _ (by omega)) (pow_lt_63 (by omega))
      have hst := maskN_or (noImg im) i
      repeat (first | ((first | refine opt_some (getC_rows rfl rfl (by omega)) ?_ | refine opt_some (by dsimp only; exact getC_lent rfl rfl (by omega)) ?_ | refine opt_some rfl ?_ | refine ⟨_, (by simp only [nf, nl, nm, en, ints, setC_setC, Nat.reduceAdd, Nat.reduceMul]; exact rfl), ?_⟩ | refine ⟨_, pickT rfl, ?_⟩ | refine ⟨_, rfl, ?_⟩ | refine iteP_true rfl ?_ | refine iteP_false rfl ?_ | refine iteP_true ‹_› ?_ | refine iteP_false ‹_› ?_ | refine andK ?_ | refine andA ?_ | refine andT ?_); conv => whnf))
      refine iteP_intro (fun hb => ?_) (fun hb => ?_) <;> (conv => whnf)
      · have h0 : noImg im i = true := by unfold noImg; exact decide_eq_true (by have := eqT hb; omega)
        rw [if_pos h0] at hst
        repeat (first | ((first | refine opt_some (getC_rows rfl rfl (by omega)) ?_ | refine opt_some (by dsimp only; exact getC_lent rfl rfl (by omega)) ?_ | refine opt_some rfl ?_ | refine ⟨_, (by simp only [nf, nl, nm, en, ints, setC_setC, Nat.reduceAdd, Nat.reduceMul]; exact rfl), ?_⟩ | refine ⟨_, pickT rfl, ?_⟩ | refine ⟨_, rfl, ?_⟩ | refine iteP_true rfl ?_ | refine iteP_false rfl ?_ | refine iteP_true ‹_› ?_ | refine iteP_false ‹_› ?_ | refine andK ?_ | refine andA ?_ | refine andT ?_); conv => whnf))
        (refine ⟨_, one_retN i (by omega), ?_⟩; conv => whnf)
        repeat (first | ((first | refine opt_some (getC_rows rfl rfl (by omega)) ?_ | refine opt_some (by dsimp only; exact getC_lent rfl rfl (by omega)) ?_ | refine opt_some rfl ?_ | refine ⟨_, (by simp only [nf, nl, nm, en, ints, setC_setC, Nat.reduceAdd, Nat.reduceMul, hor]; exact rfl), ?_⟩ | refine ⟨_, pickT rfl, ?_⟩ | refine ⟨_, rfl, ?_⟩ | refine iteP_true rfl ?_ | refine iteP_false rfl ?_ | refine iteP_true ‹_› ?_ | refine iteP_false ‹_› ?_ | refine andK ?_ | refine andA ?_ | refine andT ?_); conv => whnf))
        refine ⟨_, ?_, i + 1, hi'', ?_, rfl⟩
        · omega
        · rw [wrap_succ (by omega), hst]
          rfl
      · have h0 : ¬ noImg im i = true := by unfold noImg; rw [decide_eq_true_eq]; have := eqF hb; omega
        rw [if_neg h0, Nat.or_zero] at hst
        repeat (first | ((first | refine opt_some (getC_rows rfl rfl (by omega)) ?_ | refine opt_some (by dsimp only; exact getC_lent rfl rfl (by omega)) ?_ | refine opt_some rfl ?_ | refine ⟨_, (by simp only [nf, nl, nm, en, ints, setC_setC, Nat.reduceAdd, Nat.reduceMul]; exact rfl), ?_⟩ | refine ⟨_, pickT rfl, ?_⟩ | refine ⟨_, rfl, ?_⟩ | refine iteP_true rfl ?_ | refine iteP_false rfl ?_ | refine iteP_true ‹_› ?_ | refine iteP_false ‹_› ?_ | refine andK ?_ | refine andA ?_ | refine andT ?_); conv => whnf))
        refine ⟨_, ?_, i + 1, hi'', ?_, rfl⟩
        · omega
        · rw [wrap_succ (by omega), hst]
          rfl
    · obtain rfl : i = im.length := by have := leF hb; omega
      repeat' (first | ((first | refine opt_some (getC_rows rfl rfl (by omega)) ?_ | refine opt_some (by dsimp only; exact getC_lent rfl rfl (by omega)) ?_ | refine opt_some rfl ?_ | refine ⟨_, (by simp only [nf, nl, nm, en, ints, setC_setC, Nat.reduceAdd, Nat.reduceMul]; exact rfl), ?_⟩ | refine ⟨_, pickT rfl, ?_⟩ | refine ⟨_, rfl, ?_⟩ | refine iteP_true rfl ?_ | refine iteP_false rfl ?_ | refine iteP_true ‹_› ?_ | refine iteP_false ‹_› ?_ | refine andK ?_ | refine andA ?_ | refine andT ?_); conv => whnf) | (refine iteP_intro (fun hb => ?_) (fun hb => ?_) <;> (conv => whnf)))
      rfl
  · rw [eraR_bad h]
    generalize morphC n ds m es rs true = c at hc h
    have hcb : (c != 0) = true := by simpa using h
    (refine ret_of_den (E := en 35 [] (fun _ => [(9, 0), (20, 0), (21, 0), (19, 1)]) (fun _ => [])) tt_ok mixed Tryd.func30 rfl rfl rfl rfl ?_; refine ⟨by simp, ?_⟩)
    repeat' (first | ((first | refine opt_some (getC_rows rfl rfl (by omega)) ?_ | refine opt_some (by dsimp only; exact getC_lent rfl rfl (by omega)) ?_ | refine opt_some rfl ?_ | refine ⟨_, (by simp only [nf, nl, nm, en, ints, setC_setC, Nat.reduceAdd, Nat.reduceMul]; exact rfl), ?_⟩ | refine ⟨_, pickT rfl, ?_⟩ | refine ⟨_, rfl, ?_⟩ | refine iteP_true rfl ?_ | refine iteP_false rfl ?_ | refine iteP_true ‹_› ?_ | refine iteP_false ‹_› ?_ | refine andK ?_ | refine andA ?_ | refine andT ?_); conv => whnf) | (refine iteP_intro (fun hb => ?_) (fun hb => ?_) <;> (conv => whnf)))
    (refine ⟨_, hc.args (.same _ (.same _ (.same _ (.ro (.nil _ _) (.ro (.nil _ _) .nil))))), ?_⟩; conv => whnf)
    repeat' (first | ((first | refine opt_some (getC_rows rfl rfl (by omega)) ?_ | refine opt_some (by dsimp only; exact getC_lent rfl rfl (by omega)) ?_ | refine opt_some rfl ?_ | refine ⟨_, (by simp only [nf, nl, nm, en, ints, setC_setC, Nat.reduceAdd, Nat.reduceMul]; exact rfl), ?_⟩ | refine ⟨_, pickT rfl, ?_⟩ | refine ⟨_, rfl, ?_⟩ | refine iteP_true rfl ?_ | refine iteP_false rfl ?_ | refine iteP_true ‹_› ?_ | refine iteP_false ‹_› ?_ | refine andK ?_ | refine andA ?_ | refine andT ?_); conv => whnf) | (refine iteP_intro (fun hb => ?_) (fun hb => ?_) <;> (conv => whnf)))
    rfl
end Go.Proofs.YtpopepcmfanegaaDoor
