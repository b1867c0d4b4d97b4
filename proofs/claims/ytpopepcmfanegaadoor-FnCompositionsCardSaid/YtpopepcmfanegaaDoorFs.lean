import Derived.Test.YtpopepcmfanegaaDoorFr
set_option autoImplicit false
set_option linter.unusedSimpArgs false
set_option linter.unusedVariables false
namespace Go.Proofs.YtpopepcmfanegaaDoor
open Go.Den
/-- What ComposeMorphisms answers. -/
def compR (n : Int) (ds : List Int) (m : Int) (es : List Int) (l : Int) (us : List Int) (fs gs : List (List Int)) : List (List Nat) × Int :=
  if alphaOk n ds && alphaOk m es && alphaOk l us then
    (if mapOk n m fs && mapOk m l gs then
      (if respN (ds.map Int.toNat) (es.map Int.toNat) (fs.map (·.map Int.toNat)) && respN (es.map Int.toNat) (us.map Int.toNat) (gs.map (·.map Int.toNat)) then
        (if (fs.map (·.map Int.toNat)).any fun w => decide (24 < (imgN (gs.map (·.map Int.toNat)) w).length) then ([], 3)
          else ((fs.map (·.map Int.toNat)).map fun w => nform (us.map Int.toNat) (imgN (gs.map (·.map Int.toNat)) w), 0))
        else ([], 5))
      else ([], 2))
    else ([], 1)
section
variable {n : Int} {ds : List Int} {m : Int} {es : List Int} {l : Int} {us : List Int} {fs gs : List (List Int)}
theorem compR_1 (h : (alphaOk n ds && alphaOk m es && alphaOk l us) = false) : compR n ds m es l us fs gs = ([], 1) := by
  unfold compR
  rw [if_neg (by rw [h]; simp)]
theorem compR_2 (h1 : alphaOk n ds = true) (h2 : alphaOk m es = true) (h3 : alphaOk l us = true) (h : (mapOk n m fs && mapOk m l gs) = false) : compR n ds m es l us fs gs = ([], 2) := by
  unfold compR
  rw [if_pos (by rw [h1, h2, h3]; rfl), if_neg (by rw [h]; simp)]
theorem compR_3 (h1 : alphaOk n ds = true) (h2 : alphaOk m es = true) (h3 : alphaOk l us = true) (h : (mapOk n m fs && mapOk m l gs) = true) {ms ks ls : List Nat} {ff gg : List (List Nat)}
    (e1 : ds.map Int.toNat = ms) (e2 : es.map Int.toNat = ks) (e3 : us.map Int.toNat = ls) (e4 : fs.map (·.map Int.toNat) = ff) (e5 : gs.map (·.map Int.toNat) = gg) :
    compR n ds m es l us fs gs = if respN ms ks ff && respN ks ls gg then (if ff.any fun w => decide (24 < (imgN gg w).length) then ([], 3) else (ff.map fun w => nform ls (imgN gg w), 0)) else ([], 5) := by
  unfold compR
  rw [if_pos (by rw [h1, h2, h3]; rfl), if_pos h, e1, e2, e3, e4, e5]
end
theorem compR_nz {n : Int} {ds : List Int} {m : Int} {es : List Int} {l : Int} {us : List Int} {fs gs : List (List Int)} (h : (compR n ds m es l us fs gs).2 ≠ 0) : (compR n ds m es l us fs gs).1 = [] := by
  unfold compR at h ⊢
  split
  · rename_i h1
    rw [if_pos h1] at h
    split
    · rename_i h2
      rw [if_pos h2] at h
      split
      · rename_i h3
        rw [if_pos h3] at h
        split
        · rfl
        · rename_i h4; rw [if_neg h4] at h; exact absurd rfl h
      · rfl
    · rfl
  · rfl
theorem compR_le (n : Int) (ds : List Int) (m : Int) (es : List Int) (l : Int) (us : List Int) (fs gs : List (List Int)) : (compR n ds m es l us fs gs).2 ≠ 0 → OLe nilS (rowsC (compR n ds m es l us fs gs).1) := fun h => rows_nil (compR_nz h)
theorem compR_small (n : Int) (ds : List Int) (m : Int) (es : List Int) (l : Int) (us : List Int) (fs gs : List (List Int)) : ((compR n ds m es l us fs gs).1.map natI).length ≤ 8 ∧ tot ((compR n ds m es l us fs gs).1.map natI) ≤ 8 * 24 := by
  cases h1 : (alphaOk n ds && alphaOk m es && alphaOk l us) with
  | false => rw [compR_1 h1]; exact ⟨by simp, by simp [tot]⟩
  | true =>
    simp only [Bool.and_eq_true] at h1
    obtain ⟨⟨h1, h2⟩, h3⟩ := h1
    cases h : (mapOk n m fs && mapOk m l gs) with
    | false => rw [compR_2 h1 h2 h3 h]; exact ⟨by simp, by simp [tot]⟩
    | true =>
      have hm := h
      rw [Bool.and_eq_true] at hm
      obtain ⟨ms, e1, rfl, rfl, hl1, hA⟩ := alpha_ok h1
      obtain ⟨ks, e2, rfl, rfl, hl2, hB⟩ := alpha_ok h2
      obtain ⟨ls, e3, rfl, rfl, hl3, hC⟩ := alpha_ok h3
      obtain ⟨ff, e4, rfl, hi, hws⟩ := map_ok hm.1
      obtain ⟨gg, e5, rfl, hj, hwt⟩ := map_ok hm.2
      rw [compR_3 h1 h2 h3 h e1 e2 e3 e4 e5]
      split
      · split
        · exact ⟨by simp, by simp [tot]⟩
        · rename_i ha
          have ha' : ∀ w ∈ ff, ¬ 24 < (imgN gg w).length := fun w hw hh => ha (List.any_eq_true.2 ⟨w, hw, decide_eq_true hh⟩)
          have hlen : (List.map natI (ff.map fun w => nform ls (imgN gg w))).length ≤ 8 := by rw [List.length_map, List.length_map]; omega
          refine ⟨hlen, ?_⟩
          refine Nat.le_trans (tot_le (c := 24) fun r hr => ?_) (Nat.mul_le_mul_right 24 hlen)
          obtain ⟨x, hx, rfl⟩ := List.mem_map.1 hr
          obtain ⟨w, hw, rfl⟩ := List.mem_map.1 hx
          rw [natI_length, nform_length hC (imgN_wd hwt w)]
          have := ha' w hw
          omega
      · exact ⟨by simp, by simp [tot]⟩
theorem take_succ_map {α β : Type} {f : α → β} {w : List α} {i : Nat} (h : i < w.length) : (w.take (i + 1)).map f = (w.take i).map f ++ [f w[i]] := by
  rw [List.take_succ_eq_append_getElem h, List.map_append]
  rfl
theorem rowsC_raw (o : List (List Nat)) (v : List Nat) : Cell.sl false 1 (o.length + 1) (o.map (fun w => ints (natI w)) ++ [ints (natI v)]) = rowsC (o ++ [v]) := by simp [rowsC]
set_option maxHeartbeats 4000000 in
set_option maxRecDepth 100000 in
theorem compS_ret (n m l : Int) (ds es us : List Int) (fs gs : List (List Int)) (hd : ds.length < 2 ^ 62) (he : es.length < 2 ^ 62) (hu : us.length < 2 ^ 62) (hf : fs.length < 2 ^ 62) (hfx : ∀ r ∈ fs, r.length < 2 ^ 62) (hg : gs.length < 2 ^ 62) (hgx : ∀ r ∈ gs, r.length < 2 ^ 62) :
    Ret Tryd.prog G0 22 [⟨.ro, .agg [i64 n, ints ds]⟩, ⟨.ro, .agg [i64 m, ints es]⟩, ⟨.ro, .agg [i64 l, ints us]⟩, ⟨.ro, .one (rowsI fs)⟩, ⟨.ro, .one (rowsI gs)⟩] ⟨.tup [(false, [rowsC (compR n ds m es l us fs gs).1]), (false, [i64 (compR n ds m es l us fs gs).2])], []⟩ := by
  refine Ret.nz ?_ (compR_le n ds m es l us fs gs)
  unfold rowsI
  (refine ret_of_den (E := en 75 [] (fun _ => [(7, 0), (12, 0), (13, 0), (3, 1), (4, 1)]) (fun _ => [])) tt_ok mixed Tryd.func22 rfl rfl rfl rfl ?_; refine ⟨by simp, ?_⟩)
  repeat' (first | ((first | refine opt_some (getC_rows rfl rfl (by omega)) ?_ | refine opt_some (by dsimp only; exact getC_lent rfl rfl (by omega)) ?_ | refine opt_some rfl ?_ | refine ⟨_, (by simp only [nf, nl, nm, en, ints, setC_setC, Nat.reduceAdd, Nat.reduceMul]; exact rfl), ?_⟩ | refine ⟨_, pickT rfl, ?_⟩ | refine ⟨_, rfl, ?_⟩ | refine iteP_true rfl ?_ | refine iteP_false rfl ?_ | refine iteP_true ‹_› ?_ | refine iteP_false ‹_› ?_ | refine andK ?_ | refine andA ?_ | refine andT ?_); conv => whnf) | (refine iteP_intro (fun hb => ?_) (fun hb => ?_) <;> (conv => whnf)))
  (refine ⟨_, l02Is_ret n ds hd, ?_⟩; conv => whnf)
  cases h1 : alphaOk n ds with
  | false =>
    repeat' (first | ((first | refine opt_some (getC_rows rfl rfl (by omega)) ?_ | refine opt_some (by dsimp only; exact getC_lent rfl rfl (by omega)) ?_ | refine opt_some rfl ?_ | refine ⟨_, (by simp only [nf, nl, nm, en, ints, setC_setC, Nat.reduceAdd, Nat.reduceMul]; exact rfl), ?_⟩ | refine ⟨_, pickT rfl, ?_⟩ | refine ⟨_, rfl, ?_⟩ | refine iteP_true rfl ?_ | refine iteP_false rfl ?_ | refine iteP_true ‹_› ?_ | refine iteP_false ‹_› ?_ | refine andK ?_ | refine andA ?_ | refine andT ?_); conv => whnf) | (refine iteP_intro (fun hb => ?_) (fun hb => ?_) <;> (conv => whnf)))
    rw [compR_1 (by rw [h1]; rfl)]
    rfl
  | true =>
    repeat' (first | ((first | refine opt_some (getC_rows rfl rfl (by omega)) ?_ | refine opt_some (by dsimp only; exact getC_lent rfl rfl (by omega)) ?_ | refine opt_some rfl ?_ | refine ⟨_, (by simp only [nf, nl, nm, en, ints, setC_setC, Nat.reduceAdd, Nat.reduceMul]; exact rfl), ?_⟩ | refine ⟨_, pickT rfl, ?_⟩ | refine ⟨_, rfl, ?_⟩ | refine iteP_true rfl ?_ | refine iteP_false rfl ?_ | refine iteP_true ‹_› ?_ | refine iteP_false ‹_› ?_ | refine andK ?_ | refine andA ?_ | refine andT ?_); conv => whnf) | (refine iteP_intro (fun hb => ?_) (fun hb => ?_) <;> (conv => whnf)))
    (refine ⟨_, l02Is_ret m es he, ?_⟩; conv => whnf)
    cases h2 : alphaOk m es with
    | false =>
      repeat' (first | ((first | refine opt_some (getC_rows rfl rfl (by omega)) ?_ | refine opt_some (by dsimp only; exact getC_lent rfl rfl (by omega)) ?_ | refine opt_some rfl ?_ | refine ⟨_, (by simp only [nf, nl, nm, en, ints, setC_setC, Nat.reduceAdd, Nat.reduceMul]; exact rfl), ?_⟩ | refine ⟨_, pickT rfl, ?_⟩ | refine ⟨_, rfl, ?_⟩ | refine iteP_true rfl ?_ | refine iteP_false rfl ?_ | refine iteP_true ‹_› ?_ | refine iteP_false ‹_› ?_ | refine andK ?_ | refine andA ?_ | refine andT ?_); conv => whnf) | (refine iteP_intro (fun hb => ?_) (fun hb => ?_) <;> (conv => whnf)))
      rw [compR_1 (by rw [h1, h2]; rfl)]
      rfl
    | true =>
      repeat' (first | ((first | refine opt_some (getC_rows rfl rfl (by omega)) ?_ | refine opt_some (by dsimp only; exact getC_lent rfl rfl (by omega)) ?_ | refine opt_some rfl ?_ | refine ⟨_, (by simp only [nf, nl, nm, en, ints, setC_setC, Nat.reduceAdd, Nat.reduceMul]; exact rfl), ?_⟩ | refine ⟨_, pickT rfl, ?_⟩ | refine ⟨_, rfl, ?_⟩ | refine iteP_true rfl ?_ | refine iteP_false rfl ?_ | refine iteP_true ‹_› ?_ | refine iteP_false ‹_› ?_ | refine andK ?_ | refine andA ?_ | refine andT ?_); conv => whnf) | (refine iteP_intro (fun hb => ?_) (fun hb => ?_) <;> (conv => whnf)))
      (refine ⟨_, l02Is_ret l us hu, ?_⟩; conv => whnf)
      cases h3 : alphaOk l us with
      | false =>
        repeat' (first | ((first | refine opt_some (getC_rows rfl rfl (by omega)) ?_ | refine opt_some (by dsimp only; exact getC_lent rfl rfl (by omega)) ?_ | refine opt_some rfl ?_ | refine ⟨_, (by simp only [nf, nl, nm, en, ints, setC_setC, Nat.reduceAdd, Nat.reduceMul]; exact rfl), ?_⟩ | refine ⟨_, pickT rfl, ?_⟩ | refine ⟨_, rfl, ?_⟩ | refine iteP_true rfl ?_ | refine iteP_false rfl ?_ | refine iteP_true ‹_› ?_ | refine iteP_false ‹_› ?_ | refine andK ?_ | refine andA ?_ | refine andT ?_); conv => whnf) | (refine iteP_intro (fun hb => ?_) (fun hb => ?_) <;> (conv => whnf)))
        rw [compR_1 (by rw [h1, h2, h3]; rfl)]
        rfl
      | true =>
        have hn := alphaOk_n h1
        have hm := alphaOk_n h2
        have hl := alphaOk_n h3
        have hm1 := l08Map_ret n m ds es fs (by omega) (by omega) hf hfx
        have hm2 := l08Map_ret m l es us gs (by omega) (by omega) hg hgx
        unfold rowsI at hm1 hm2
        repeat' (first | ((first | refine opt_some (getC_rows rfl rfl (by omega)) ?_ | refine opt_some (by dsimp only; exact getC_lent rfl rfl (by omega)) ?_ | refine opt_some rfl ?_ | refine ⟨_, (by simp only [nf, nl, nm, en, ints, setC_setC, Nat.reduceAdd, Nat.reduceMul]; exact rfl), ?_⟩ | refine ⟨_, pickT rfl, ?_⟩ | refine ⟨_, rfl, ?_⟩ | refine iteP_true rfl ?_ | refine iteP_false rfl ?_ | refine iteP_true ‹_› ?_ | refine iteP_false ‹_› ?_ | refine andK ?_ | refine andA ?_ | refine andT ?_); conv => whnf) | (refine iteP_intro (fun hb => ?_) (fun hb => ?_) <;> (conv => whnf)))
        (refine ⟨_, hm1, ?_⟩; conv => whnf)
        cases h4 : mapOk n m fs with
        | false =>
          repeat' (first | ((first | refine opt_some (getC_rows rfl rfl (by omega)) ?_ | refine opt_some (by dsimp only; exact getC_lent rfl rfl (by omega)) ?_ | refine opt_some rfl ?_ | refine ⟨_, (by simp only [nf, nl, nm, en, ints, setC_setC, Nat.reduceAdd, Nat.reduceMul]; exact rfl), ?_⟩ | refine ⟨_, pickT rfl, ?_⟩ | refine ⟨_, rfl, ?_⟩ | refine iteP_true rfl ?_ | refine iteP_false rfl ?_ | refine iteP_true ‹_› ?_ | refine iteP_false ‹_› ?_ | refine andK ?_ | refine andA ?_ | refine andT ?_); conv => whnf) | (refine iteP_intro (fun hb => ?_) (fun hb => ?_) <;> (conv => whnf)))
          rw [compR_2 h1 h2 h3 (by rw [h4]; rfl)]
          rfl
        | true =>
          repeat' (first | ((first | refine opt_some (getC_rows rfl rfl (by omega)) ?_ | refine opt_some (by dsimp only; exact getC_lent rfl rfl (by omega)) ?_ | refine opt_some rfl ?_ | refine ⟨_, (by simp only [nf, nl, nm, en, ints, setC_setC, Nat.reduceAdd, Nat.reduceMul]; exact rfl), ?_⟩ | refine ⟨_, pickT rfl, ?_⟩ | refine ⟨_, rfl, ?_⟩ | refine iteP_true rfl ?_ | refine iteP_false rfl ?_ | refine iteP_true ‹_› ?_ | refine iteP_false ‹_› ?_ | refine andK ?_ | refine andA ?_ | refine andT ?_); conv => whnf) | (refine iteP_intro (fun hb => ?_) (fun hb => ?_) <;> (conv => whnf)))
          (refine ⟨_, hm2, ?_⟩; conv => whnf)
          cases h5 : mapOk m l gs with
          | false =>
            repeat' (first | ((first | refine opt_some (getC_rows rfl rfl (by omega)) ?_ | refine opt_some (by dsimp only; exact getC_lent rfl rfl (by omega)) ?_ | refine opt_some rfl ?_ | refine ⟨_, (by simp only [nf, nl, nm, en, ints, setC_setC, Nat.reduceAdd, Nat.reduceMul]; exact rfl), ?_⟩ | refine ⟨_, pickT rfl, ?_⟩ | refine ⟨_, rfl, ?_⟩ | refine iteP_true rfl ?_ | refine iteP_false rfl ?_ | refine iteP_true ‹_› ?_ | refine iteP_false ‹_› ?_ | refine andK ?_ | refine andA ?_ | refine andT ?_); conv => whnf) | (refine iteP_intro (fun hb => ?_) (fun hb => ?_) <;> (conv => whnf)))
            rw [compR_2 h1 h2 h3 (by rw [h4, h5]; rfl)]
            rfl
          | true =>
            obtain ⟨ms, e1, rfl, rfl, hl1, hA⟩ := alpha_ok h1
            obtain ⟨ks, e2, rfl, rfl, hl2, hB⟩ := alpha_ok h2
            obtain ⟨ls, e3, rfl, rfl, hl3, hC⟩ := alpha_ok h3
            obtain ⟨ff, e4, rfl, hi, hws⟩ := map_ok h4
            obtain ⟨gg, e5, rfl, hj, hwt⟩ := map_ok h5
            have hr1 := l08Morphism_ret ms ks ff hA hl1 hB hl2 hi hws
            have hr2 := l08Morphism_ret ks ls gg hB hl2 hC hl3 hj hwt
            unfold rowsI at hr1 hr2
            have hR := compR_3 h1 h2 h3 (by rw [h4, h5]; rfl) e1 e2 e3 e4 e5
            rw [hR]
            clear hR
            repeat' (first | ((first | refine opt_some (getC_rows rfl rfl (by omega)) ?_ | refine opt_some (by dsimp only; exact getC_lent rfl rfl (by omega)) ?_ | refine opt_some rfl ?_ | refine ⟨_, (by simp only [nf, nl, nm, en, ints, setC_setC, Nat.reduceAdd, Nat.reduceMul]; exact rfl), ?_⟩ | refine ⟨_, pickT rfl, ?_⟩ | refine ⟨_, rfl, ?_⟩ | refine iteP_true rfl ?_ | refine iteP_false rfl ?_ | refine iteP_true ‹_› ?_ | refine iteP_false ‹_› ?_ | refine andK ?_ | refine andA ?_ | refine andT ?_); conv => whnf) | (refine iteP_intro (fun hb => ?_) (fun hb => ?_) <;> (conv => whnf)))
            (refine ⟨_, hr1, ?_⟩; conv => whnf)
            cases h6 : respN ms ks ff with
            | false =>
              repeat' (first | ((first | refine opt_some (getC_rows rfl rfl (by omega)) ?_ | refine opt_some (by dsimp only; exact getC_lent rfl rfl (by omega)) ?_ | refine opt_some rfl ?_ | refine ⟨_, (by simp only [nf, nl, nm, en, ints, setC_setC, Nat.reduceAdd, Nat.reduceMul]; exact rfl), ?_⟩ | refine ⟨_, pickT rfl, ?_⟩ | refine ⟨_, rfl, ?_⟩ | refine iteP_true rfl ?_ | refine iteP_false rfl ?_ | refine iteP_true ‹_› ?_ | refine iteP_false ‹_› ?_ | refine andK ?_ | refine andA ?_ | refine andT ?_); conv => whnf) | (refine iteP_intro (fun hb => ?_) (fun hb => ?_) <;> (conv => whnf)))
              rfl
            | true =>
              repeat' (first | ((first | refine opt_some (getC_rows rfl rfl (by omega)) ?_ | refine opt_some (by dsimp only; exact getC_lent rfl rfl (by omega)) ?_ | refine opt_some rfl ?_ | refine ⟨_, (by simp only [nf, nl, nm, en, ints, setC_setC, Nat.reduceAdd, Nat.reduceMul]; exact rfl), ?_⟩ | refine ⟨_, pickT rfl, ?_⟩ | refine ⟨_, rfl, ?_⟩ | refine iteP_true rfl ?_ | refine iteP_false rfl ?_ | refine iteP_true ‹_› ?_ | refine iteP_false ‹_› ?_ | refine andK ?_ | refine andA ?_ | refine andT ?_); conv => whnf) | (refine iteP_intro (fun hb => ?_) (fun hb => ?_) <;> (conv => whnf)))
              (refine ⟨_, hr2, ?_⟩; conv => whnf)
              cases h7 : respN ks ls gg with
              | false =>
                repeat' (first | ((first | refine opt_some (getC_rows rfl rfl (by omega)) ?_ | refine opt_some (by dsimp only; exact getC_lent rfl rfl (by omega)) ?_ | refine opt_some rfl ?_ | refine ⟨_, (by simp only [nf, nl, nm, en, ints, setC_setC, Nat.reduceAdd, Nat.reduceMul]; exact rfl), ?_⟩ | refine ⟨_, pickT rfl, ?_⟩ | refine ⟨_, rfl, ?_⟩ | refine iteP_true rfl ?_ | refine iteP_false rfl ?_ | refine iteP_true ‹_› ?_ | refine iteP_false ‹_› ?_ | refine andK ?_ | refine andA ?_ | refine andT ?_); conv => whnf) | (refine iteP_intro (fun hb => ?_) (fun hb => ?_) <;> (conv => whnf)))
                rfl
              | true =>
                have hfl : (ff.map natI).length = ff.length := List.length_map _
                rw [if_pos (show (true && true) = true from rfl)]
                repeat' (first | ((first | refine opt_some (getC_rows rfl rfl (by omega)) ?_ | refine opt_some (by dsimp only; exact getC_lent rfl rfl (by omega)) ?_ | refine opt_some rfl ?_ | refine ⟨_, (by simp only [nf, nl, nm, en, ints, setC_setC, Nat.reduceAdd, Nat.reduceMul]; exact rfl), ?_⟩ | refine ⟨_, pickT rfl, ?_⟩ | refine ⟨_, rfl, ?_⟩ | refine iteP_true rfl ?_ | refine iteP_false rfl ?_ | refine iteP_true ‹_› ?_ | refine iteP_false ‹_› ?_ | refine andK ?_ | refine andA ?_ | refine andT ?_); conv => whnf) | (refine iteP_intro (fun hb => ?_) (fun hb => ?_) <;> (conv => whnf)))
                refine ⟨fun k vs => ∃ i : Nat, i ≤ ff.length ∧ (∀ w ∈ ff.take i, ¬ 24 < (imgN gg w).length) ∧ vs = [.one (.ptr [i64 ls.length, .shd (ints (natI ls))]), .one (rowsC ((ff.take i).map fun w => nform ls (imgN gg w))), .one (i64 i), .one (.shd (.sl false 1 (ff.map natI).length ((ff.map natI).map ints))), .one (.shd (.sl false 1 (gg.map natI).length ((gg.map natI).map ints)))] ∧ k = ff.length - i, rfl, ⟨_, 0, by omega, by simp, rfl, rfl⟩, ?_⟩
                rintro k vs ⟨i, hi', hs, rfl, rfl⟩
                unfold rowsC
                have htl : ((ff.take i).map fun w => nform ls (imgN gg w)).length ≤ 8 := by rw [List.length_map, List.length_take]; omega
                repeat (first | ((first | refine opt_some (getC_rows rfl rfl (by omega)) ?_ | refine opt_some (by dsimp only; exact getC_lent rfl rfl (by omega)) ?_ | refine opt_some rfl ?_ | refine ⟨_, (by simp only [nf, nl, nm, en, ints, setC_setC, Nat.reduceAdd, Nat.reduceMul]; exact rfl), ?_⟩ | refine ⟨_, pickT rfl, ?_⟩ | refine ⟨_, rfl, ?_⟩ | refine iteP_true rfl ?_ | refine iteP_false rfl ?_ | refine iteP_true ‹_› ?_ | refine iteP_false ‹_› ?_ | refine andK ?_ | refine andA ?_ | refine andT ?_); conv => whnf))
                refine iteP_intro (fun hb => ?_) (fun hb => ?_) <;> (conv => whnf)
                · have hi'' : i < ff.length := by have := leT hb; omega
                  have hga := rows_get (im := ff) hi'' (by omega)
                  have hgw : ff.getD i [] = ff[i] := by rw [List.getD_eq_getElem?_getD, List.getElem?_eq_getElem hi'', Option.getD_some]
                  rw [hgw] at hga
                  obtain ⟨hw1, hw2⟩ := hws ff[i] (List.getElem_mem hi'')
                  have hIm := l08Image_ret gg ff[i] (fun c hc => by have := hw2 c hc; omega) (by omega) (fun v hv => (hwt v hv).1)
                  have hil := imgN_len (fun v hv => (hwt v hv).1) ff[i]
                  have hN := l03Normal_ret ls (imgN gg ff[i]) hC (by omega) (imgN_wd hwt _) (by omega)
                  have hnl := natI_length (imgN gg ff[i])
                  have hts := take_succ_map (f := fun w => nform ls (imgN gg w)) hi''
                  have hsn := rowsC_raw ((ff.take i).map fun w => nform ls (imgN gg w)) (nform ls (imgN gg ff[i]))
                  unfold rowsC at hsn
                  unfold rowsI at hIm
                  repeat (first | ((first | refine opt_some (getC_rows rfl rfl (by omega)) ?_ | refine opt_some (by dsimp only; exact getC_lent rfl rfl (by omega)) ?_ | refine opt_some rfl ?_ | refine ⟨_, (by simp only [nf, nl, nm, en, ints, setC_setC, Nat.reduceAdd, Nat.reduceMul, hga]; exact rfl), ?_⟩ | refine ⟨_, pickT rfl, ?_⟩ | refine ⟨_, rfl, ?_⟩ | refine iteP_true rfl ?_ | refine iteP_false rfl ?_ | refine iteP_true ‹_› ?_ | refine iteP_false ‹_› ?_ | refine andK ?_ | refine andA ?_ | refine andT ?_); conv => whnf))
                  (refine ⟨_, hIm, ?_⟩; conv => whnf)
                  repeat (first | ((first | refine opt_some (getC_rows rfl rfl (by omega)) ?_ | refine opt_some (by dsimp only; exact getC_lent rfl rfl (by omega)) ?_ | refine opt_some rfl ?_ | refine ⟨_, (by simp only [nf, nl, nm, en, ints, setC_setC, Nat.reduceAdd, Nat.reduceMul]; exact rfl), ?_⟩ | refine ⟨_, pickT rfl, ?_⟩ | refine ⟨_, rfl, ?_⟩ | refine iteP_true rfl ?_ | refine iteP_false rfl ?_ | refine iteP_true ‹_› ?_ | refine iteP_false ‹_› ?_ | refine andK ?_ | refine andA ?_ | refine andT ?_); conv => whnf))
                  refine iteP_intro (fun hb => ?_) (fun hb => ?_) <;> (conv => whnf)
                  · repeat' (first | ((first | refine opt_some (getC_rows rfl rfl (by omega)) ?_ | refine opt_some (by dsimp only; exact getC_lent rfl rfl (by omega)) ?_ | refine opt_some rfl ?_ | refine ⟨_, (by simp only [nf, nl, nm, en, ints, setC_setC, Nat.reduceAdd, Nat.reduceMul]; exact rfl), ?_⟩ | refine ⟨_, pickT rfl, ?_⟩ | refine ⟨_, rfl, ?_⟩ | refine iteP_true rfl ?_ | refine iteP_false rfl ?_ | refine iteP_true ‹_› ?_ | refine iteP_false ‹_› ?_ | refine andK ?_ | refine andA ?_ | refine andT ?_); conv => whnf) | (refine iteP_intro (fun hb => ?_) (fun hb => ?_) <;> (conv => whnf)))
                    rw [if_pos (List.any_eq_true.2 ⟨ff[i], List.getElem_mem _, decide_eq_true (by have := leT hb; omega)⟩)]
                    rfl
                  · repeat (first | ((first | refine opt_some (getC_rows rfl rfl (by omega)) ?_ | refine opt_some (by dsimp only; exact getC_lent rfl rfl (by omega)) ?_ | refine opt_some rfl ?_ | refine ⟨_, (by simp only [nf, nl, nm, en, ints, setC_setC, Nat.reduceAdd, Nat.reduceMul]; exact rfl), ?_⟩ | refine ⟨_, pickT rfl, ?_⟩ | refine ⟨_, rfl, ?_⟩ | refine iteP_true rfl ?_ | refine iteP_false rfl ?_ | refine iteP_true ‹_› ?_ | refine iteP_false ‹_› ?_ | refine andK ?_ | refine andA ?_ | refine andT ?_); conv => whnf))
                    (refine ⟨_, hN, ?_⟩; conv => whnf)
                    repeat (first | ((first | refine opt_some (getC_rows rfl rfl (by omega)) ?_ | refine opt_some (by dsimp only; exact getC_lent rfl rfl (by omega)) ?_ | refine opt_some rfl ?_ | refine ⟨_, (by simp only [nf, nl, nm, en, ints, setC_setC, Nat.reduceAdd, Nat.reduceMul]; exact rfl), ?_⟩ | refine ⟨_, pickT rfl, ?_⟩ | refine ⟨_, rfl, ?_⟩ | refine iteP_true rfl ?_ | refine iteP_false rfl ?_ | refine iteP_true ‹_› ?_ | refine iteP_false ‹_› ?_ | refine andK ?_ | refine andA ?_ | refine andT ?_); conv => whnf))
                    refine ⟨_, ?_, i + 1, hi'', fun w hw => ?_, ?_, rfl⟩
                    · omega
                    · rw [List.take_succ_eq_append_getElem hi''] at hw
                      rcases List.mem_append.1 hw with h | h
                      · exact hs w h
                      · obtain rfl := List.mem_singleton.1 h
                        have := leF hb
                        omega
                    · rw [wrap_succ (by omega), hts, ← hsn]
                      rfl
                · obtain rfl : i = ff.length := by have := leF hb; omega
                  rw [List.take_length] at hs ⊢
                  rw [if_neg (fun ha => by obtain ⟨w, hw, hh⟩ := List.any_eq_true.1 ha; exact hs w hw (of_decide_eq_true hh))]
                  repeat' (first | ((first | refine opt_some (getC_rows rfl rfl (by omega)) ?_ | refine opt_some (by dsimp only; exact getC_lent rfl rfl (by omega)) ?_ | refine opt_some rfl ?_ | refine ⟨_, (by simp only [nf, nl, nm, en, ints, setC_setC, Nat.reduceAdd, Nat.reduceMul]; exact rfl), ?_⟩ | refine ⟨_, pickT rfl, ?_⟩ | refine ⟨_, rfl, ?_⟩ | refine iteP_true rfl ?_ | refine iteP_false rfl ?_ | refine iteP_true ‹_› ?_ | refine iteP_false ‹_› ?_ | refine andK ?_ | refine andA ?_ | refine andT ?_); conv => whnf) | (refine iteP_intro (fun hb => ?_) (fun hb => ?_) <;> (conv => whnf)))
                  rfl
set_option maxHeartbeats 4000000 in
set_option maxRecDepth 100000 in
theorem compI_ret (n m l : Int) (ds es us : List Int) (fs gs : List (List Int)) (hd : ds.length < 2 ^ 62) (he : es.length < 2 ^ 62) (hu : us.length < 2 ^ 62) (hf : fs.length < 2 ^ 62) (hfx : ∀ r ∈ fs, r.length < 2 ^ 62) (hg : gs.length < 2 ^ 62) (hgx : ∀ r ∈ gs, r.length < 2 ^ 62) :
    Ret Tryd.prog G0 21 [⟨.ro, .agg [i64 n, ints ds]⟩, ⟨.ro, .agg [i64 m, ints es]⟩, ⟨.ro, .agg [i64 l, ints us]⟩, ⟨.ro, .one (rowsI fs)⟩, ⟨.ro, .one (rowsI gs)⟩] ⟨.tup [(false, [rowsC (compR n ds m es l us fs gs).1]), (false, [i64 (compR n ds m es l us fs gs).2])], []⟩ := by
  refine Ret.nz ?_ (compR_le n ds m es l us fs gs)
  unfold rowsI
  (refine ret_of_den (E := en 82 [] (fun _ => [(7, 0), (12, 0), (59, 0), (60, 0), (58, 1), (4, 1)]) (fun _ => [])) tt_ok mixed Tryd.func21 rfl rfl rfl rfl ?_; refine ⟨by simp, ?_⟩)
  repeat' (first | ((first | refine opt_some (getC_rows rfl rfl (by omega)) ?_ | refine opt_some (by dsimp only; exact getC_lent rfl rfl (by omega)) ?_ | refine opt_some rfl ?_ | refine ⟨_, (by simp only [nf, nl, nm, en, ints, setC_setC, Nat.reduceAdd, Nat.reduceMul]; exact rfl), ?_⟩ | refine ⟨_, pickT rfl, ?_⟩ | refine ⟨_, rfl, ?_⟩ | refine iteP_true rfl ?_ | refine iteP_false rfl ?_ | refine iteP_true ‹_› ?_ | refine iteP_false ‹_› ?_ | refine andK ?_ | refine andA ?_ | refine andT ?_); conv => whnf) | (refine iteP_intro (fun hb => ?_) (fun hb => ?_) <;> (conv => whnf)))
  (refine ⟨_, isAlpha_ret n ds hd, ?_⟩; conv => whnf)
  cases h1 : alphaOk n ds with
  | false =>
    repeat' (first | ((first | refine opt_some (getC_rows rfl rfl (by omega)) ?_ | refine opt_some (by dsimp only; exact getC_lent rfl rfl (by omega)) ?_ | refine opt_some rfl ?_ | refine ⟨_, (by simp only [nf, nl, nm, en, ints, setC_setC, Nat.reduceAdd, Nat.reduceMul]; exact rfl), ?_⟩ | refine ⟨_, pickT rfl, ?_⟩ | refine ⟨_, rfl, ?_⟩ | refine iteP_true rfl ?_ | refine iteP_false rfl ?_ | refine iteP_true ‹_› ?_ | refine iteP_false ‹_› ?_ | refine andK ?_ | refine andA ?_ | refine andT ?_); conv => whnf) | (refine iteP_intro (fun hb => ?_) (fun hb => ?_) <;> (conv => whnf)))
    rw [compR_1 (by rw [h1]; rfl)]
    rfl
  | true =>
    repeat' (first | ((first | refine opt_some (getC_rows rfl rfl (by omega)) ?_ | refine opt_some (by dsimp only; exact getC_lent rfl rfl (by omega)) ?_ | refine opt_some rfl ?_ | refine ⟨_, (by simp only [nf, nl, nm, en, ints, setC_setC, Nat.reduceAdd, Nat.reduceMul]; exact rfl), ?_⟩ | refine ⟨_, pickT rfl, ?_⟩ | refine ⟨_, rfl, ?_⟩ | refine iteP_true rfl ?_ | refine iteP_false rfl ?_ | refine iteP_true ‹_› ?_ | refine iteP_false ‹_› ?_ | refine andK ?_ | refine andA ?_ | refine andT ?_); conv => whnf) | (refine iteP_intro (fun hb => ?_) (fun hb => ?_) <;> (conv => whnf)))
    (refine ⟨_, isAlpha_ret m es he, ?_⟩; conv => whnf)
    cases h2 : alphaOk m es with
    | false =>
      repeat' (first | ((first | refine opt_some (getC_rows rfl rfl (by omega)) ?_ | refine opt_some (by dsimp only; exact getC_lent rfl rfl (by omega)) ?_ | refine opt_some rfl ?_ | refine ⟨_, (by simp only [nf, nl, nm, en, ints, setC_setC, Nat.reduceAdd, Nat.reduceMul]; exact rfl), ?_⟩ | refine ⟨_, pickT rfl, ?_⟩ | refine ⟨_, rfl, ?_⟩ | refine iteP_true rfl ?_ | refine iteP_false rfl ?_ | refine iteP_true ‹_› ?_ | refine iteP_false ‹_› ?_ | refine andK ?_ | refine andA ?_ | refine andT ?_); conv => whnf) | (refine iteP_intro (fun hb => ?_) (fun hb => ?_) <;> (conv => whnf)))
      rw [compR_1 (by rw [h1, h2]; rfl)]
      rfl
    | true =>
      repeat' (first | ((first | refine opt_some (getC_rows rfl rfl (by omega)) ?_ | refine opt_some (by dsimp only; exact getC_lent rfl rfl (by omega)) ?_ | refine opt_some rfl ?_ | refine ⟨_, (by simp only [nf, nl, nm, en, ints, setC_setC, Nat.reduceAdd, Nat.reduceMul]; exact rfl), ?_⟩ | refine ⟨_, pickT rfl, ?_⟩ | refine ⟨_, rfl, ?_⟩ | refine iteP_true rfl ?_ | refine iteP_false rfl ?_ | refine iteP_true ‹_› ?_ | refine iteP_false ‹_› ?_ | refine andK ?_ | refine andA ?_ | refine andT ?_); conv => whnf) | (refine iteP_intro (fun hb => ?_) (fun hb => ?_) <;> (conv => whnf)))
      (refine ⟨_, isAlpha_ret l us hu, ?_⟩; conv => whnf)
      cases h3 : alphaOk l us with
      | false =>
        repeat' (first | ((first | refine opt_some (getC_rows rfl rfl (by omega)) ?_ | refine opt_some (by dsimp only; exact getC_lent rfl rfl (by omega)) ?_ | refine opt_some rfl ?_ | refine ⟨_, (by simp only [nf, nl, nm, en, ints, setC_setC, Nat.reduceAdd, Nat.reduceMul]; exact rfl), ?_⟩ | refine ⟨_, pickT rfl, ?_⟩ | refine ⟨_, rfl, ?_⟩ | refine iteP_true rfl ?_ | refine iteP_false rfl ?_ | refine iteP_true ‹_› ?_ | refine iteP_false ‹_› ?_ | refine andK ?_ | refine andA ?_ | refine andT ?_); conv => whnf) | (refine iteP_intro (fun hb => ?_) (fun hb => ?_) <;> (conv => whnf)))
        rw [compR_1 (by rw [h1, h2, h3]; rfl)]
        rfl
      | true =>
        have hn := alphaOk_n h1
        have hm := alphaOk_n h2
        have hl := alphaOk_n h3
        have hm1 := goodIm_ret n m ds es fs (by omega) (by omega) hf hfx
        have hm2 := goodIm_ret m l es us gs (by omega) (by omega) hg hgx
        unfold rowsI at hm1 hm2
        repeat' (first | ((first | refine opt_some (getC_rows rfl rfl (by omega)) ?_ | refine opt_some (by dsimp only; exact getC_lent rfl rfl (by omega)) ?_ | refine opt_some rfl ?_ | refine ⟨_, (by simp only [nf, nl, nm, en, ints, setC_setC, Nat.reduceAdd, Nat.reduceMul]; exact rfl), ?_⟩ | refine ⟨_, pickT rfl, ?_⟩ | refine ⟨_, rfl, ?_⟩ | refine iteP_true rfl ?_ | refine iteP_false rfl ?_ | refine iteP_true ‹_› ?_ | refine iteP_false ‹_› ?_ | refine andK ?_ | refine andA ?_ | refine andT ?_); conv => whnf) | (refine iteP_intro (fun hb => ?_) (fun hb => ?_) <;> (conv => whnf)))
        (refine ⟨_, hm1, ?_⟩; conv => whnf)
        cases h4 : mapOk n m fs with
        | false =>
          repeat' (first | ((first | refine opt_some (getC_rows rfl rfl (by omega)) ?_ | refine opt_some (by dsimp only; exact getC_lent rfl rfl (by omega)) ?_ | refine opt_some rfl ?_ | refine ⟨_, (by simp only [nf, nl, nm, en, ints, setC_setC, Nat.reduceAdd, Nat.reduceMul]; exact rfl), ?_⟩ | refine ⟨_, pickT rfl, ?_⟩ | refine ⟨_, rfl, ?_⟩ | refine iteP_true rfl ?_ | refine iteP_false rfl ?_ | refine iteP_true ‹_› ?_ | refine iteP_false ‹_› ?_ | refine andK ?_ | refine andA ?_ | refine andT ?_); conv => whnf) | (refine iteP_intro (fun hb => ?_) (fun hb => ?_) <;> (conv => whnf)))
          rw [compR_2 h1 h2 h3 (by rw [h4]; rfl)]
          rfl
        | true =>
          repeat' (first | ((first | refine opt_some (getC_rows rfl rfl (by omega)) ?_ | refine opt_some (by dsimp only; exact getC_lent rfl rfl (by omega)) ?_ | refine opt_some rfl ?_ | refine ⟨_, (by simp only [nf, nl, nm, en, ints, setC_setC, Nat.reduceAdd, Nat.reduceMul]; exact rfl), ?_⟩ | refine ⟨_, pickT rfl, ?_⟩ | refine ⟨_, rfl, ?_⟩ | refine iteP_true rfl ?_ | refine iteP_false rfl ?_ | refine iteP_true ‹_› ?_ | refine iteP_false ‹_› ?_ | refine andK ?_ | refine andA ?_ | refine andT ?_); conv => whnf) | (refine iteP_intro (fun hb => ?_) (fun hb => ?_) <;> (conv => whnf)))
          (refine ⟨_, hm2, ?_⟩; conv => whnf)
          cases h5 : mapOk m l gs with
          | false =>
            repeat' (first | ((first | refine opt_some (getC_rows rfl rfl (by omega)) ?_ | refine opt_some (by dsimp only; exact getC_lent rfl rfl (by omega)) ?_ | refine opt_some rfl ?_ | refine ⟨_, (by simp only [nf, nl, nm, en, ints, setC_setC, Nat.reduceAdd, Nat.reduceMul]; exact rfl), ?_⟩ | refine ⟨_, pickT rfl, ?_⟩ | refine ⟨_, rfl, ?_⟩ | refine iteP_true rfl ?_ | refine iteP_false rfl ?_ | refine iteP_true ‹_› ?_ | refine iteP_false ‹_› ?_ | refine andK ?_ | refine andA ?_ | refine andT ?_); conv => whnf) | (refine iteP_intro (fun hb => ?_) (fun hb => ?_) <;> (conv => whnf)))
            rw [compR_2 h1 h2 h3 (by rw [h4, h5]; rfl)]
            rfl
          | true =>
            obtain ⟨ms, e1, rfl, rfl, hl1, hA⟩ := alpha_ok h1
            obtain ⟨ks, e2, rfl, rfl, hl2, hB⟩ := alpha_ok h2
            obtain ⟨ls, e3, rfl, rfl, hl3, hC⟩ := alpha_ok h3
            obtain ⟨ff, e4, rfl, hi, hws⟩ := map_ok h4
            obtain ⟨gg, e5, rfl, hj, hwt⟩ := map_ok h5
            have hr1 := respects_ret ms ks ff hA hl1 hB hl2 hi hws
            have hr2 := respects_ret ks ls gg hB hl2 hC hl3 hj hwt
            unfold rowsI at hr1 hr2
            have hR := compR_3 h1 h2 h3 (by rw [h4, h5]; rfl) e1 e2 e3 e4 e5
            rw [hR]
            clear hR
            repeat' (first | ((first | refine opt_some (getC_rows rfl rfl (by omega)) ?_ | refine opt_some (by dsimp only; exact getC_lent rfl rfl (by omega)) ?_ | refine opt_some rfl ?_ | refine ⟨_, (by simp only [nf, nl, nm, en, ints, setC_setC, Nat.reduceAdd, Nat.reduceMul]; exact rfl), ?_⟩ | refine ⟨_, pickT rfl, ?_⟩ | refine ⟨_, rfl, ?_⟩ | refine iteP_true rfl ?_ | refine iteP_false rfl ?_ | refine iteP_true ‹_› ?_ | refine iteP_false ‹_› ?_ | refine andK ?_ | refine andA ?_ | refine andT ?_); conv => whnf) | (refine iteP_intro (fun hb => ?_) (fun hb => ?_) <;> (conv => whnf)))
            (refine ⟨_, hr1, ?_⟩; conv => whnf)
            cases h6 : respN ms ks ff with
            | false =>
              repeat' (first | ((first | refine opt_some (getC_rows rfl rfl (by omega)) ?_ | refine opt_some (by dsimp only; exact getC_lent rfl rfl (by omega)) ?_ | refine opt_some rfl ?_ | refine ⟨_, (by simp only [nf, nl, nm, en, ints, setC_setC, Nat.reduceAdd, Nat.reduceMul]; exact rfl), ?_⟩ | refine ⟨_, pickT rfl, ?_⟩ | refine ⟨_, rfl, ?_⟩ | refine iteP_true rfl ?_ | refine iteP_false rfl ?_ | refine iteP_true ‹_› ?_ | refine iteP_false ‹_› ?_ | refine andK ?_ | refine andA ?_ | refine andT ?_); conv => whnf) | (refine iteP_intro (fun hb => ?_) (fun hb => ?_) <;> (conv => whnf)))
              rfl
            | true =>
              repeat' (first | ((first | refine opt_some (getC_rows rfl rfl (by omega)) ?_ | refine opt_some (by dsimp only; exact getC_lent rfl rfl (by omega)) ?_ | refine opt_some rfl ?_ | refine ⟨_, (by simp only [nf, nl, nm, en, ints, setC_setC, Nat.reduceAdd, Nat.reduceMul]; exact rfl), ?_⟩ | refine ⟨_, pickT rfl, ?_⟩ | refine ⟨_, rfl, ?_⟩ | refine iteP_true rfl ?_ | refine iteP_false rfl ?_ | refine iteP_true ‹_› ?_ | refine iteP_false ‹_› ?_ | refine andK ?_ | refine andA ?_ | refine andT ?_); conv => whnf) | (refine iteP_intro (fun hb => ?_) (fun hb => ?_) <;> (conv => whnf)))
              (refine ⟨_, hr2, ?_⟩; conv => whnf)
              cases h7 : respN ks ls gg with
              | false =>
                repeat' (first | ((first | refine opt_some (getC_rows rfl rfl (by omega)) ?_ | refine opt_some (by dsimp only; exact getC_lent rfl rfl (by omega)) ?_ | refine opt_some rfl ?_ | refine ⟨_, (by simp only [nf, nl, nm, en, ints, setC_setC, Nat.reduceAdd, Nat.reduceMul]; exact rfl), ?_⟩ | refine ⟨_, pickT rfl, ?_⟩ | refine ⟨_, rfl, ?_⟩ | refine iteP_true rfl ?_ | refine iteP_false rfl ?_ | refine iteP_true ‹_› ?_ | refine iteP_false ‹_› ?_ | refine andK ?_ | refine andA ?_ | refine andT ?_); conv => whnf) | (refine iteP_intro (fun hb => ?_) (fun hb => ?_) <;> (conv => whnf)))
                rfl
              | true =>
                have hfl : (ff.map natI).length = ff.length := List.length_map _
                have hti := ties_ret ls.length (natI ls)
                rw [if_pos (show (true && true) = true from rfl)]
                repeat' (first | ((first | refine opt_some (getC_rows rfl rfl (by omega)) ?_ | refine opt_some (by dsimp only; exact getC_lent rfl rfl (by omega)) ?_ | refine opt_some rfl ?_ | refine ⟨_, (by simp only [nf, nl, nm, en, ints, setC_setC, Nat.reduceAdd, Nat.reduceMul]; exact rfl), ?_⟩ | refine ⟨_, pickT rfl, ?_⟩ | refine ⟨_, rfl, ?_⟩ | refine iteP_true rfl ?_ | refine iteP_false rfl ?_ | refine iteP_true ‹_› ?_ | refine iteP_false ‹_› ?_ | refine andK ?_ | refine andA ?_ | refine andT ?_); conv => whnf) | (refine iteP_intro (fun hb => ?_) (fun hb => ?_) <;> (conv => whnf)))
                refine ⟨fun k vs => ∃ i : Nat, i ≤ ff.length ∧ (∀ w ∈ ff.take i, ¬ 24 < (imgN gg w).length) ∧ vs = [.one (.ptr [i64 ls.length, .shd (ints (natI ls))]), .one (rowsC ((ff.take i).map fun w => nform ls (imgN gg w))), .one (i64 (ff.map natI).length), .one (i64 i), .one (.shd (.sl false 1 (ff.map natI).length ((ff.map natI).map ints))), .one (.shd (.sl false 1 (gg.map natI).length ((gg.map natI).map ints)))] ∧ k = ff.length - i, rfl, ⟨_, 0, by omega, by simp, rfl, rfl⟩, ?_⟩
                rintro k vs ⟨i, hi', hs, rfl, rfl⟩
                unfold rowsC
                have htl : ((ff.take i).map fun w => nform ls (imgN gg w)).length ≤ 8 := by rw [List.length_map, List.length_take]; omega
                repeat (first | ((first | refine opt_some (getC_rows rfl rfl (by omega)) ?_ | refine opt_some (by dsimp only; exact getC_lent rfl rfl (by omega)) ?_ | refine opt_some rfl ?_ | refine ⟨_, (by simp only [nf, nl, nm, en, ints, setC_setC, Nat.reduceAdd, Nat.reduceMul]; exact rfl), ?_⟩ | refine ⟨_, pickT rfl, ?_⟩ | refine ⟨_, rfl, ?_⟩ | refine iteP_true rfl ?_ | refine iteP_false rfl ?_ | refine iteP_true ‹_› ?_ | refine iteP_false ‹_› ?_ | refine andK ?_ | refine andA ?_ | refine andT ?_); conv => whnf))
                refine iteP_intro (fun hb => ?_) (fun hb => ?_) <;> (conv => whnf)
                · have hi'' : i < ff.length := by have := leT hb; omega
                  have hga := rows_get (im := ff) hi'' (by omega)
                  have hgw : ff.getD i [] = ff[i] := by rw [List.getD_eq_getElem?_getD, List.getElem?_eq_getElem hi'', Option.getD_some]
                  rw [hgw] at hga
                  obtain ⟨hw1, hw2⟩ := hws ff[i] (List.getElem_mem hi'')
                  have hIm := image_ret gg ff[i] (fun c hc => by have := hw2 c hc; omega) (by omega) (fun v hv => (hwt v hv).1)
                  have hil := imgN_len (fun v hv => (hwt v hv).1) ff[i]
                  have hN := limited_ret ls (imgN gg ff[i]) hC (by omega) (imgN_wd hwt _) (by omega)
                  have hnl := natI_length (imgN gg ff[i])
                  have hts := take_succ_map (f := fun w => nform ls (imgN gg w)) hi''
                  have hsn := rowsC_raw ((ff.take i).map fun w => nform ls (imgN gg w)) (nform ls (imgN gg ff[i]))
                  unfold rowsC at hsn
                  unfold rowsI at hIm
                  repeat (first | ((first | refine opt_some (getC_rows rfl rfl (by omega)) ?_ | refine opt_some (by dsimp only; exact getC_lent rfl rfl (by omega)) ?_ | refine opt_some rfl ?_ | refine ⟨_, (by simp only [nf, nl, nm, en, ints, setC_setC, Nat.reduceAdd, Nat.reduceMul]; exact rfl), ?_⟩ | refine ⟨_, pickT rfl, ?_⟩ | refine ⟨_, rfl, ?_⟩ | refine iteP_true rfl ?_ | refine iteP_false rfl ?_ | refine iteP_true ‹_› ?_ | refine iteP_false ‹_› ?_ | refine andK ?_ | refine andA ?_ | refine andT ?_); conv => whnf))
                  (refine ⟨_, hti, ?_⟩; conv => whnf)
                  repeat (first | ((first | refine opt_some (getC_rows rfl rfl (by omega)) ?_ | refine opt_some (by dsimp only; exact getC_lent rfl rfl (by omega)) ?_ | refine opt_some rfl ?_ | refine ⟨_, (by simp only [nf, nl, nm, en, ints, setC_setC, Nat.reduceAdd, Nat.reduceMul, hga]; exact rfl), ?_⟩ | refine ⟨_, pickT rfl, ?_⟩ | refine ⟨_, rfl, ?_⟩ | refine iteP_true rfl ?_ | refine iteP_false rfl ?_ | refine iteP_true ‹_› ?_ | refine iteP_false ‹_› ?_ | refine andK ?_ | refine andA ?_ | refine andT ?_); conv => whnf))
                  (refine ⟨_, hIm, ?_⟩; conv => whnf)
                  repeat (first | ((first | refine opt_some (getC_rows rfl rfl (by omega)) ?_ | refine opt_some (by dsimp only; exact getC_lent rfl rfl (by omega)) ?_ | refine opt_some rfl ?_ | refine ⟨_, (by simp only [nf, nl, nm, en, ints, setC_setC, Nat.reduceAdd, Nat.reduceMul]; exact rfl), ?_⟩ | refine ⟨_, pickT rfl, ?_⟩ | refine ⟨_, rfl, ?_⟩ | refine iteP_true rfl ?_ | refine iteP_false rfl ?_ | refine iteP_true ‹_› ?_ | refine iteP_false ‹_› ?_ | refine andK ?_ | refine andA ?_ | refine andT ?_); conv => whnf))
                  by_cases hq : 24 < (imgN gg ff[i]).length
                  · rw [if_pos hq, if_pos hq] at hN
                    (refine ⟨_, hN, ?_⟩; conv => whnf)
                    repeat' (first | ((first | refine opt_some (getC_rows rfl rfl (by omega)) ?_ | refine opt_some (by dsimp only; exact getC_lent rfl rfl (by omega)) ?_ | refine opt_some rfl ?_ | refine ⟨_, (by simp only [nf, nl, nm, en, ints, setC_setC, Nat.reduceAdd, Nat.reduceMul]; exact rfl), ?_⟩ | refine ⟨_, pickT rfl, ?_⟩ | refine ⟨_, rfl, ?_⟩ | refine iteP_true rfl ?_ | refine iteP_false rfl ?_ | refine iteP_true ‹_› ?_ | refine iteP_false ‹_› ?_ | refine andK ?_ | refine andA ?_ | refine andT ?_); conv => whnf) | (refine iteP_intro (fun hb => ?_) (fun hb => ?_) <;> (conv => whnf)))
                    rw [if_pos (List.any_eq_true.2 ⟨ff[i], List.getElem_mem _, decide_eq_true hq⟩)]
                    rfl
                  · rw [if_neg hq, if_neg hq] at hN
                    (refine ⟨_, hN, ?_⟩; conv => whnf)
                    repeat (first | ((first | refine opt_some (getC_rows rfl rfl (by omega)) ?_ | refine opt_some (by dsimp only; exact getC_lent rfl rfl (by omega)) ?_ | refine opt_some rfl ?_ | refine ⟨_, (by simp only [nf, nl, nm, en, ints, setC_setC, Nat.reduceAdd, Nat.reduceMul]; exact rfl), ?_⟩ | refine ⟨_, pickT rfl, ?_⟩ | refine ⟨_, rfl, ?_⟩ | refine iteP_true rfl ?_ | refine iteP_false rfl ?_ | refine iteP_true ‹_› ?_ | refine iteP_false ‹_› ?_ | refine andK ?_ | refine andA ?_ | refine andT ?_); conv => whnf))
                    refine ⟨_, ?_, i + 1, hi'', fun w hw => ?_, ?_, rfl⟩
                    · omega
                    · rw [List.take_succ_eq_append_getElem hi''] at hw
                      rcases List.mem_append.1 hw with h | h
                      · exact hs w h
                      · obtain rfl := List.mem_singleton.1 h
                        exact hq
                    · rw [wrap_succ (by omega), hts, ← hsn]
                      rfl
                · obtain rfl : i = ff.length := by have := leF hb; omega
                  rw [List.take_length] at hs ⊢
                  rw [if_neg (fun ha => by obtain ⟨w, hw, hh⟩ := List.any_eq_true.1 ha; exact hs w hw (of_decide_eq_true hh))]
                  repeat' (first | ((first | refine opt_some (getC_rows rfl rfl (by omega)) ?_ | refine opt_some (by dsimp only; exact getC_lent rfl rfl (by omega)) ?_ | refine opt_some rfl ?_ | refine ⟨_, (by simp only [nf, nl, nm, en, ints, setC_setC, Nat.reduceAdd, Nat.reduceMul]; exact rfl), ?_⟩ | refine ⟨_, pickT rfl, ?_⟩ | refine ⟨_, rfl, ?_⟩ | refine iteP_true rfl ?_ | refine iteP_false rfl ?_ | refine iteP_true ‹_› ?_ | refine iteP_false ‹_› ?_ | refine andK ?_ | refine andA ?_ | refine andT ?_); conv => whnf) | (refine iteP_intro (fun hb => ?_) (fun hb => ?_) <;> (conv => whnf)))
                  rfl
end Go.Proofs.YtpopepcmfanegaaDoor
