import Derived.Test.YtpopepcmfanegaaDoorFzg
set_option autoImplicit false
set_option linter.unusedSimpArgs false
set_option linter.unusedVariables false
namespace Go.Proofs.YtpopepcmfanegaaDoor
open Go.Den
set_option maxHeartbeats 4000000 in
set_option maxRecDepth 100000 in
theorem arecBad_ret (n : Int) (ds xs ys : List Int) (hd : ds.length < 2 ^ 62) (hx : xs.length < 2 ^ 62) (hy : ys.length < 2 ^ 62) (h0 : chkC n ds xs ys ≠ 0) : Ret Tryd.prog G0 45 [⟨.ro, .agg [i64 n, ints ds]⟩, ⟨.ro, .one (ints xs)⟩, ⟨.ro, .one (ints ys)⟩] ⟨.tup [(false, [.c (.bool false)]), (false, [i64 (chkC n ds xs ys)])], []⟩ := by
  have hC := chkBad_ret n ds xs ys hd hx hy h0
  have hE : ∃ c, chkC n ds xs ys = c := ⟨_, rfl⟩
  obtain ⟨c, hc⟩ := hE
  rw [hc] at hC h0 ⊢
  have h2 : (c != 0) = true := by simpa using h0
  unfold rowsI at hC
  (refine ret_of_den (E := en 33 [] (fun _ => []) (fun _ => [])) tt_ok mixed Tryd.func45 rfl rfl rfl rfl ?_; refine ⟨by simp, ?_⟩)
  repeat' (first | ((first | refine opt_some (getC_rows rfl rfl (by omega)) ?_ | refine opt_some (by dsimp only; exact getC_lent rfl rfl (by omega)) ?_ | refine opt_some rfl ?_ | refine ⟨_, (by simp only [nf, nl, nm, en, ints, setC_setC, Nat.reduceAdd, Nat.reduceMul]; exact rfl), ?_⟩ | refine ⟨_, pickT rfl, ?_⟩ | refine ⟨_, rfl, ?_⟩ | refine iteP_true rfl ?_ | refine iteP_false rfl ?_ | refine iteP_true ‹_› ?_ | refine iteP_false ‹_› ?_ | refine andK ?_ | refine andA ?_ | refine andT ?_); conv => whnf) | (refine iteP_intro (fun hb => ?_) (fun hb => ?_) <;> (conv => whnf)))
  (refine ⟨_, hC, ?_⟩; conv => whnf)
  repeat' (first | ((first | refine opt_some (getC_rows rfl rfl (by omega)) ?_ | refine opt_some (by dsimp only; exact getC_lent rfl rfl (by omega)) ?_ | refine opt_some rfl ?_ | refine ⟨_, (by simp only [nf, nl, nm, en, ints, setC_setC, Nat.reduceAdd, Nat.reduceMul]; exact rfl), ?_⟩ | refine ⟨_, pickT rfl, ?_⟩ | refine ⟨_, rfl, ?_⟩ | refine iteP_true rfl ?_ | refine iteP_false rfl ?_ | refine iteP_true ‹_› ?_ | refine iteP_false ‹_› ?_ | refine andK ?_ | refine andA ?_ | refine andT ?_); conv => whnf) | (refine iteP_intro (fun hb => ?_) (fun hb => ?_) <;> (conv => whnf)))
  rfl
set_option maxHeartbeats 4000000 in
set_option maxRecDepth 100000 in
theorem arecIn_ret (ms w v : List Nat) (hl : ms.length ≤ 8) (hA : Alpha ms) (hok : alphaOk ms.length (natI ms) = true) (hw : Wd ms w) (hv : Wd ms v) (hx : w.length ≤ 24) (hy : v.length ≤ 24) (hs : (pcW ms w).length ≤ 1000) : Ret Tryd.prog G0 45 [⟨.ro, .agg [i64 ms.length, ints (natI ms)]⟩, ⟨.ro, .one (ints (natI w))⟩, ⟨.ro, .one (ints (natI v))⟩] ⟨.tup [(false, [.c (.bool (decide (nform ms v ∈ (pcW ms w).map (·.1))))]), (false, [i64 0])], []⟩ := by
  have hC := chkGood_ret ms w v hl hA hok hw hv hx hy hs
  have hti := ties_ret ms.length (natI ms)
  have hN := normal_ret ms v hA (by omega) hv (by omega)
  have hnl : (nform ms v).length ≤ 24 := by rw [nform_length hA hv]; omega
  have hG := cjI_of ms w hA hw
  have hpx : ∀ p ∈ pcW ms w, p.1.length ≤ 24 := fun p hp => by rw [(hG.ok p.1 (List.mem_map_of_mem hp)).2]; exact hx
  unfold rowsI at hC
  by_cases hm : nform ms v ∈ (pcW ms w).map (·.1)
  · rw [decide_eq_true hm]
    obtain ⟨i, hi, -, h2, h3⟩ := findI_some hm 0
    have hS := conjS_ret (pcW ms w) (nform ms v) (pcW ms w)[i].2 i (by omega) hpx hnl hi (by rw [← h2]) h3
    by_cases hi0 : i = 0
    · rw [if_pos hi0] at hS
      (refine ret_of_den (E := en 33 [] (fun _ => []) (fun _ => [])) tt_ok mixed Tryd.func45 rfl rfl rfl rfl ?_; refine ⟨by simp, ?_⟩)
      repeat' (first | ((first | refine opt_some (getC_rows rfl rfl (by omega)) ?_ | refine opt_some (by dsimp only; exact getC_lent rfl rfl (by omega)) ?_ | refine opt_some rfl ?_ | refine ⟨_, (by simp only [nf, nl, nm, en, ints, setC_setC, Nat.reduceAdd, Nat.reduceMul]; exact rfl), ?_⟩ | refine ⟨_, pickT rfl, ?_⟩ | refine ⟨_, rfl, ?_⟩ | refine iteP_true rfl ?_ | refine iteP_false rfl ?_ | refine iteP_true ‹_› ?_ | refine iteP_false ‹_› ?_ | refine andK ?_ | refine andA ?_ | refine andT ?_); conv => whnf) | (refine iteP_intro (fun hb => ?_) (fun hb => ?_) <;> (conv => whnf)))
      (refine ⟨_, hC, ?_⟩; conv => whnf)
      repeat' (first | ((first | refine opt_some (getC_rows rfl rfl (by omega)) ?_ | refine opt_some (by dsimp only; exact getC_lent rfl rfl (by omega)) ?_ | refine opt_some rfl ?_ | refine ⟨_, (by simp only [nf, nl, nm, en, ints, setC_setC, Nat.reduceAdd, Nat.reduceMul]; exact rfl), ?_⟩ | refine ⟨_, pickT rfl, ?_⟩ | refine ⟨_, rfl, ?_⟩ | refine iteP_true rfl ?_ | refine iteP_false rfl ?_ | refine iteP_true ‹_› ?_ | refine iteP_false ‹_› ?_ | refine andK ?_ | refine andA ?_ | refine andT ?_); conv => whnf) | (refine iteP_intro (fun hb => ?_) (fun hb => ?_) <;> (conv => whnf)))
      (refine ⟨_, hti, ?_⟩; conv => whnf)
      repeat' (first | ((first | refine opt_some (getC_rows rfl rfl (by omega)) ?_ | refine opt_some (by dsimp only; exact getC_lent rfl rfl (by omega)) ?_ | refine opt_some rfl ?_ | refine ⟨_, (by simp only [nf, nl, nm, en, ints, setC_setC, Nat.reduceAdd, Nat.reduceMul]; exact rfl), ?_⟩ | refine ⟨_, pickT rfl, ?_⟩ | refine ⟨_, rfl, ?_⟩ | refine iteP_true rfl ?_ | refine iteP_false rfl ?_ | refine iteP_true ‹_› ?_ | refine iteP_false ‹_› ?_ | refine andK ?_ | refine andA ?_ | refine andT ?_); conv => whnf) | (refine iteP_intro (fun hb => ?_) (fun hb => ?_) <;> (conv => whnf)))
      (refine ⟨_, hN, ?_⟩; conv => whnf)
      repeat' (first | ((first | refine opt_some (getC_rows rfl rfl (by omega)) ?_ | refine opt_some (by dsimp only; exact getC_lent rfl rfl (by omega)) ?_ | refine opt_some rfl ?_ | refine ⟨_, (by simp only [nf, nl, nm, en, ints, setC_setC, Nat.reduceAdd, Nat.reduceMul]; exact rfl), ?_⟩ | refine ⟨_, pickT rfl, ?_⟩ | refine ⟨_, rfl, ?_⟩ | refine iteP_true rfl ?_ | refine iteP_false rfl ?_ | refine iteP_true ‹_› ?_ | refine iteP_false ‹_› ?_ | refine andK ?_ | refine andA ?_ | refine andT ?_); conv => whnf) | (refine iteP_intro (fun hb => ?_) (fun hb => ?_) <;> (conv => whnf)))
      (refine ⟨_, hS, ?_⟩; conv => whnf)
      repeat' (first | ((first | refine opt_some (getC_rows rfl rfl (by omega)) ?_ | refine opt_some (by dsimp only; exact getC_lent rfl rfl (by omega)) ?_ | refine opt_some rfl ?_ | refine ⟨_, (by simp only [nf, nl, nm, en, ints, setC_setC, Nat.reduceAdd, Nat.reduceMul]; exact rfl), ?_⟩ | refine ⟨_, pickT rfl, ?_⟩ | refine ⟨_, rfl, ?_⟩ | refine iteP_true rfl ?_ | refine iteP_false rfl ?_ | refine iteP_true ‹_› ?_ | refine iteP_false ‹_› ?_ | refine andK ?_ | refine andA ?_ | refine andT ?_); conv => whnf) | (refine iteP_intro (fun hb => ?_) (fun hb => ?_) <;> (conv => whnf)))
      rfl
    · rw [if_neg hi0] at hS
      (refine ret_of_den (E := en 33 [] (fun _ => []) (fun _ => [])) tt_ok mixed Tryd.func45 rfl rfl rfl rfl ?_; refine ⟨by simp, ?_⟩)
      repeat' (first | ((first | refine opt_some (getC_rows rfl rfl (by omega)) ?_ | refine opt_some (by dsimp only; exact getC_lent rfl rfl (by omega)) ?_ | refine opt_some rfl ?_ | refine ⟨_, (by simp only [nf, nl, nm, en, ints, setC_setC, Nat.reduceAdd, Nat.reduceMul]; exact rfl), ?_⟩ | refine ⟨_, pickT rfl, ?_⟩ | refine ⟨_, rfl, ?_⟩ | refine iteP_true rfl ?_ | refine iteP_false rfl ?_ | refine iteP_true ‹_› ?_ | refine iteP_false ‹_› ?_ | refine andK ?_ | refine andA ?_ | refine andT ?_); conv => whnf) | (refine iteP_intro (fun hb => ?_) (fun hb => ?_) <;> (conv => whnf)))
      (refine ⟨_, hC, ?_⟩; conv => whnf)
      repeat' (first | ((first | refine opt_some (getC_rows rfl rfl (by omega)) ?_ | refine opt_some (by dsimp only; exact getC_lent rfl rfl (by omega)) ?_ | refine opt_some rfl ?_ | refine ⟨_, (by simp only [nf, nl, nm, en, ints, setC_setC, Nat.reduceAdd, Nat.reduceMul]; exact rfl), ?_⟩ | refine ⟨_, pickT rfl, ?_⟩ | refine ⟨_, rfl, ?_⟩ | refine iteP_true rfl ?_ | refine iteP_false rfl ?_ | refine iteP_true ‹_› ?_ | refine iteP_false ‹_› ?_ | refine andK ?_ | refine andA ?_ | refine andT ?_); conv => whnf) | (refine iteP_intro (fun hb => ?_) (fun hb => ?_) <;> (conv => whnf)))
      (refine ⟨_, hti, ?_⟩; conv => whnf)
      repeat' (first | ((first | refine opt_some (getC_rows rfl rfl (by omega)) ?_ | refine opt_some (by dsimp only; exact getC_lent rfl rfl (by omega)) ?_ | refine opt_some rfl ?_ | refine ⟨_, (by simp only [nf, nl, nm, en, ints, setC_setC, Nat.reduceAdd, Nat.reduceMul]; exact rfl), ?_⟩ | refine ⟨_, pickT rfl, ?_⟩ | refine ⟨_, rfl, ?_⟩ | refine iteP_true rfl ?_ | refine iteP_false rfl ?_ | refine iteP_true ‹_› ?_ | refine iteP_false ‹_› ?_ | refine andK ?_ | refine andA ?_ | refine andT ?_); conv => whnf) | (refine iteP_intro (fun hb => ?_) (fun hb => ?_) <;> (conv => whnf)))
      (refine ⟨_, hN, ?_⟩; conv => whnf)
      repeat' (first | ((first | refine opt_some (getC_rows rfl rfl (by omega)) ?_ | refine opt_some (by dsimp only; exact getC_lent rfl rfl (by omega)) ?_ | refine opt_some rfl ?_ | refine ⟨_, (by simp only [nf, nl, nm, en, ints, setC_setC, Nat.reduceAdd, Nat.reduceMul]; exact rfl), ?_⟩ | refine ⟨_, pickT rfl, ?_⟩ | refine ⟨_, rfl, ?_⟩ | refine iteP_true rfl ?_ | refine iteP_false rfl ?_ | refine iteP_true ‹_› ?_ | refine iteP_false ‹_› ?_ | refine andK ?_ | refine andA ?_ | refine andT ?_); conv => whnf) | (refine iteP_intro (fun hb => ?_) (fun hb => ?_) <;> (conv => whnf)))
      (refine ⟨_, hS, ?_⟩; conv => whnf)
      repeat' (first | ((first | refine opt_some (getC_rows rfl rfl (by omega)) ?_ | refine opt_some (by dsimp only; exact getC_lent rfl rfl (by omega)) ?_ | refine opt_some rfl ?_ | refine ⟨_, (by simp only [nf, nl, nm, en, ints, setC_setC, Nat.reduceAdd, Nat.reduceMul]; exact rfl), ?_⟩ | refine ⟨_, pickT rfl, ?_⟩ | refine ⟨_, rfl, ?_⟩ | refine iteP_true rfl ?_ | refine iteP_false rfl ?_ | refine iteP_true ‹_› ?_ | refine iteP_false ‹_› ?_ | refine andK ?_ | refine andA ?_ | refine andT ?_); conv => whnf) | (refine iteP_intro (fun hb => ?_) (fun hb => ?_) <;> (conv => whnf)))
      rfl
  · rw [decide_eq_false hm]
    have hS := conjN_ret (pcW ms w) (nform ms v) (by omega) hpx hnl hm
    (refine ret_of_den (E := en 33 [] (fun _ => []) (fun _ => [])) tt_ok mixed Tryd.func45 rfl rfl rfl rfl ?_; refine ⟨by simp, ?_⟩)
    repeat' (first | ((first | refine opt_some (getC_rows rfl rfl (by omega)) ?_ | refine opt_some (by dsimp only; exact getC_lent rfl rfl (by omega)) ?_ | refine opt_some rfl ?_ | refine ⟨_, (by simp only [nf, nl, nm, en, ints, setC_setC, Nat.reduceAdd, Nat.reduceMul]; exact rfl), ?_⟩ | refine ⟨_, pickT rfl, ?_⟩ | refine ⟨_, rfl, ?_⟩ | refine iteP_true rfl ?_ | refine iteP_false rfl ?_ | refine iteP_true ‹_› ?_ | refine iteP_false ‹_› ?_ | refine andK ?_ | refine andA ?_ | refine andT ?_); conv => whnf) | (refine iteP_intro (fun hb => ?_) (fun hb => ?_) <;> (conv => whnf)))
    (refine ⟨_, hC, ?_⟩; conv => whnf)
    repeat' (first | ((first | refine opt_some (getC_rows rfl rfl (by omega)) ?_ | refine opt_some (by dsimp only; exact getC_lent rfl rfl (by omega)) ?_ | refine opt_some rfl ?_ | refine ⟨_, (by simp only [nf, nl, nm, en, ints, setC_setC, Nat.reduceAdd, Nat.reduceMul]; exact rfl), ?_⟩ | refine ⟨_, pickT rfl, ?_⟩ | refine ⟨_, rfl, ?_⟩ | refine iteP_true rfl ?_ | refine iteP_false rfl ?_ | refine iteP_true ‹_› ?_ | refine iteP_false ‹_› ?_ | refine andK ?_ | refine andA ?_ | refine andT ?_); conv => whnf) | (refine iteP_intro (fun hb => ?_) (fun hb => ?_) <;> (conv => whnf)))
    (refine ⟨_, hti, ?_⟩; conv => whnf)
    repeat' (first | ((first | refine opt_some (getC_rows rfl rfl (by omega)) ?_ | refine opt_some (by dsimp only; exact getC_lent rfl rfl (by omega)) ?_ | refine opt_some rfl ?_ | refine ⟨_, (by simp only [nf, nl, nm, en, ints, setC_setC, Nat.reduceAdd, Nat.reduceMul]; exact rfl), ?_⟩ | refine ⟨_, pickT rfl, ?_⟩ | refine ⟨_, rfl, ?_⟩ | refine iteP_true rfl ?_ | refine iteP_false rfl ?_ | refine iteP_true ‹_› ?_ | refine iteP_false ‹_› ?_ | refine andK ?_ | refine andA ?_ | refine andT ?_); conv => whnf) | (refine iteP_intro (fun hb => ?_) (fun hb => ?_) <;> (conv => whnf)))
    (refine ⟨_, hN, ?_⟩; conv => whnf)
    repeat' (first | ((first | refine opt_some (getC_rows rfl rfl (by omega)) ?_ | refine opt_some (by dsimp only; exact getC_lent rfl rfl (by omega)) ?_ | refine opt_some rfl ?_ | refine ⟨_, (by simp only [nf, nl, nm, en, ints, setC_setC, Nat.reduceAdd, Nat.reduceMul]; exact rfl), ?_⟩ | refine ⟨_, pickT rfl, ?_⟩ | refine ⟨_, rfl, ?_⟩ | refine iteP_true rfl ?_ | refine iteP_false rfl ?_ | refine iteP_true ‹_› ?_ | refine iteP_false ‹_› ?_ | refine andK ?_ | refine andA ?_ | refine andT ?_); conv => whnf) | (refine iteP_intro (fun hb => ?_) (fun hb => ?_) <;> (conv => whnf)))
    (refine ⟨_, hS, ?_⟩; conv => whnf)
    repeat' (first | ((first | refine opt_some (getC_rows rfl rfl (by omega)) ?_ | refine opt_some (by dsimp only; exact getC_lent rfl rfl (by omega)) ?_ | refine opt_some rfl ?_ | refine ⟨_, (by simp only [nf, nl, nm, en, ints, setC_setC, Nat.reduceAdd, Nat.reduceMul]; exact rfl), ?_⟩ | refine ⟨_, pickT rfl, ?_⟩ | refine ⟨_, rfl, ?_⟩ | refine iteP_true rfl ?_ | refine iteP_false rfl ?_ | refine iteP_true ‹_› ?_ | refine iteP_false ‹_› ?_ | refine andK ?_ | refine andA ?_ | refine andT ?_); conv => whnf) | (refine iteP_intro (fun hb => ?_) (fun hb => ?_) <;> (conv => whnf)))
    rfl
set_option maxHeartbeats 4000000 in
set_option maxRecDepth 100000 in
theorem cjrBad_ret (n : Int) (ds xs ys : List Int) (hd : ds.length < 2 ^ 62) (hx : xs.length < 2 ^ 62) (hy : ys.length < 2 ^ 62) (h0 : chkC n ds xs ys ≠ 0) : Ret Tryd.prog G0 43 [⟨.ro, .agg [i64 n, ints ds]⟩, ⟨.ro, .one (ints xs)⟩, ⟨.ro, .one (ints ys)⟩] ⟨.tup [(false, [nilS]), (false, [i64 (chkC n ds xs ys)])], []⟩ := by
  have hC := chkBad_ret n ds xs ys hd hx hy h0
  have hE : ∃ c, chkC n ds xs ys = c := ⟨_, rfl⟩
  obtain ⟨c, hc⟩ := hE
  rw [hc] at hC h0 ⊢
  have h2 : (c != 0) = true := by simpa using h0
  unfold rowsI at hC
  (refine ret_of_den (E := en 41 [] (fun _ => []) (fun _ => [])) tt_ok mixed Tryd.func43 rfl rfl rfl rfl ?_; refine ⟨by simp, ?_⟩)
  repeat' (first | ((first | refine opt_some (getC_rows rfl rfl (by omega)) ?_ | refine opt_some (by dsimp only; exact getC_lent rfl rfl (by omega)) ?_ | refine opt_some rfl ?_ | refine ⟨_, (by simp only [nf, nl, nm, en, ints, setC_setC, Nat.reduceAdd, Nat.reduceMul]; exact rfl), ?_⟩ | refine ⟨_, pickT rfl, ?_⟩ | refine ⟨_, rfl, ?_⟩ | refine iteP_true rfl ?_ | refine iteP_false rfl ?_ | refine iteP_true ‹_› ?_ | refine iteP_false ‹_› ?_ | refine andK ?_ | refine andA ?_ | refine andT ?_); conv => whnf) | (refine iteP_intro (fun hb => ?_) (fun hb => ?_) <;> (conv => whnf)))
  (refine ⟨_, hC, ?_⟩; conv => whnf)
  repeat' (first | ((first | refine opt_some (getC_rows rfl rfl (by omega)) ?_ | refine opt_some (by dsimp only; exact getC_lent rfl rfl (by omega)) ?_ | refine opt_some rfl ?_ | refine ⟨_, (by simp only [nf, nl, nm, en, ints, setC_setC, Nat.reduceAdd, Nat.reduceMul]; exact rfl), ?_⟩ | refine ⟨_, pickT rfl, ?_⟩ | refine ⟨_, rfl, ?_⟩ | refine iteP_true rfl ?_ | refine iteP_false rfl ?_ | refine iteP_true ‹_› ?_ | refine iteP_false ‹_› ?_ | refine andK ?_ | refine andA ?_ | refine andT ?_); conv => whnf) | (refine iteP_intro (fun hb => ?_) (fun hb => ?_) <;> (conv => whnf)))
  rfl
set_option maxHeartbeats 4000000 in
set_option maxRecDepth 100000 in
theorem cjrNone_ret (ms w v : List Nat) (hl : ms.length ≤ 8) (hA : Alpha ms) (hok : alphaOk ms.length (natI ms) = true) (hw : Wd ms w) (hv : Wd ms v) (hx : w.length ≤ 24) (hy : v.length ≤ 24) (hs : (pcW ms w).length ≤ 1000) (hm : nform ms v ∉ (pcW ms w).map (·.1)) : Ret Tryd.prog G0 43 [⟨.ro, .agg [i64 ms.length, ints (natI ms)]⟩, ⟨.ro, .one (ints (natI w))⟩, ⟨.ro, .one (ints (natI v))⟩] ⟨.tup [(false, [nilS]), (false, [i64 4])], []⟩ := by
  have hC := chkGood_ret ms w v hl hA hok hw hv hx hy hs
  have hti := ties_ret ms.length (natI ms)
  have hN := normal_ret ms v hA (by omega) hv (by omega)
  have hnl : (nform ms v).length ≤ 24 := by rw [nform_length hA hv]; omega
  have hG := cjI_of ms w hA hw
  have hpx : ∀ p ∈ pcW ms w, p.1.length ≤ 24 := fun p hp => by rw [(hG.ok p.1 (List.mem_map_of_mem hp)).2]; exact hx
  unfold rowsI at hC
  have hS := conjN_ret (pcW ms w) (nform ms v) (by omega) hpx hnl hm
  (refine ret_of_den (E := en 41 [] (fun _ => []) (fun _ => [])) tt_ok mixed Tryd.func43 rfl rfl rfl rfl ?_; refine ⟨by simp, ?_⟩)
  repeat' (first | ((first | refine opt_some (getC_rows rfl rfl (by omega)) ?_ | refine opt_some (by dsimp only; exact getC_lent rfl rfl (by omega)) ?_ | refine opt_some rfl ?_ | refine ⟨_, (by simp only [nf, nl, nm, en, ints, setC_setC, Nat.reduceAdd, Nat.reduceMul]; exact rfl), ?_⟩ | refine ⟨_, pickT rfl, ?_⟩ | refine ⟨_, rfl, ?_⟩ | refine iteP_true rfl ?_ | refine iteP_false rfl ?_ | refine iteP_true ‹_› ?_ | refine iteP_false ‹_› ?_ | refine andK ?_ | refine andA ?_ | refine andT ?_); conv => whnf) | (refine iteP_intro (fun hb => ?_) (fun hb => ?_) <;> (conv => whnf)))
  (refine ⟨_, hC, ?_⟩; conv => whnf)
  repeat' (first | ((first | refine opt_some (getC_rows rfl rfl (by omega)) ?_ | refine opt_some (by dsimp only; exact getC_lent rfl rfl (by omega)) ?_ | refine opt_some rfl ?_ | refine ⟨_, (by simp only [nf, nl, nm, en, ints, setC_setC, Nat.reduceAdd, Nat.reduceMul]; exact rfl), ?_⟩ | refine ⟨_, pickT rfl, ?_⟩ | refine ⟨_, rfl, ?_⟩ | refine iteP_true rfl ?_ | refine iteP_false rfl ?_ | refine iteP_true ‹_› ?_ | refine iteP_false ‹_› ?_ | refine andK ?_ | refine andA ?_ | refine andT ?_); conv => whnf) | (refine iteP_intro (fun hb => ?_) (fun hb => ?_) <;> (conv => whnf)))
  (refine ⟨_, hti, ?_⟩; conv => whnf)
  repeat' (first | ((first | refine opt_some (getC_rows rfl rfl (by omega)) ?_ | refine opt_some (by dsimp only; exact getC_lent rfl rfl (by omega)) ?_ | refine opt_some rfl ?_ | refine ⟨_, (by simp only [nf, nl, nm, en, ints, setC_setC, Nat.reduceAdd, Nat.reduceMul]; exact rfl), ?_⟩ | refine ⟨_, pickT rfl, ?_⟩ | refine ⟨_, rfl, ?_⟩ | refine iteP_true rfl ?_ | refine iteP_false rfl ?_ | refine iteP_true ‹_› ?_ | refine iteP_false ‹_› ?_ | refine andK ?_ | refine andA ?_ | refine andT ?_); conv => whnf) | (refine iteP_intro (fun hb => ?_) (fun hb => ?_) <;> (conv => whnf)))
  (refine ⟨_, hN, ?_⟩; conv => whnf)
  repeat' (first | ((first | refine opt_some (getC_rows rfl rfl (by omega)) ?_ | refine opt_some (by dsimp only; exact getC_lent rfl rfl (by omega)) ?_ | refine opt_some rfl ?_ | refine ⟨_, (by simp only [nf, nl, nm, en, ints, setC_setC, Nat.reduceAdd, Nat.reduceMul]; exact rfl), ?_⟩ | refine ⟨_, pickT rfl, ?_⟩ | refine ⟨_, rfl, ?_⟩ | refine iteP_true rfl ?_ | refine iteP_false rfl ?_ | refine iteP_true ‹_› ?_ | refine iteP_false ‹_› ?_ | refine andK ?_ | refine andA ?_ | refine andT ?_); conv => whnf) | (refine iteP_intro (fun hb => ?_) (fun hb => ?_) <;> (conv => whnf)))
  (refine ⟨_, hS, ?_⟩; conv => whnf)
  repeat' (first | ((first | refine opt_some (getC_rows rfl rfl (by omega)) ?_ | refine opt_some (by dsimp only; exact getC_lent rfl rfl (by omega)) ?_ | refine opt_some rfl ?_ | refine ⟨_, (by simp only [nf, nl, nm, en, ints, setC_setC, Nat.reduceAdd, Nat.reduceMul]; exact rfl), ?_⟩ | refine ⟨_, pickT rfl, ?_⟩ | refine ⟨_, rfl, ?_⟩ | refine iteP_true rfl ?_ | refine iteP_false rfl ?_ | refine iteP_true ‹_› ?_ | refine iteP_false ‹_› ?_ | refine andK ?_ | refine andA ?_ | refine andT ?_); conv => whnf) | (refine iteP_intro (fun hb => ?_) (fun hb => ?_) <;> (conv => whnf)))
  rfl
set_option maxHeartbeats 4000000 in
set_option maxRecDepth 100000 in
theorem cjrIn_ret (ms w v b : List Nat) (i : Nat) (hl : ms.length ≤ 8) (hA : Alpha ms) (hok : alphaOk ms.length (natI ms) = true) (hw : Wd ms w) (hv : Wd ms v) (hx : w.length ≤ 24) (hy : v.length ≤ 24) (hs : (pcW ms w).length ≤ 1000) (hi : i < (pcW ms w).length) (hb : (pcW ms w)[i] = (nform ms v, b)) (hf : ∀ j (hj : j < i), ((pcW ms w)[j]'(by omega)).1 ≠ nform ms v) (hb0 : i = 0 → b = []) (hbl : b.length ≤ 1001) : Ret Tryd.prog G0 43 [⟨.ro, .agg [i64 ms.length, ints (natI ms)]⟩, ⟨.ro, .one (ints (natI w))⟩, ⟨.ro, .one (ints (natI v))⟩] ⟨.tup [(false, [if 24 < b.length then nilS else ints (natI b)]), (false, [i64 (if 24 < b.length then 3 else 0)])], []⟩ := by
  have hC := chkGood_ret ms w v hl hA hok hw hv hx hy hs
  have hti := ties_ret ms.length (natI ms)
  have hN := normal_ret ms v hA (by omega) hv (by omega)
  have hnl : (nform ms v).length ≤ 24 := by rw [nform_length hA hv]; omega
  have hG := cjI_of ms w hA hw
  have hpx : ∀ p ∈ pcW ms w, p.1.length ≤ 24 := fun p hp => by rw [(hG.ok p.1 (List.mem_map_of_mem hp)).2]; exact hx
  have hbn := natI_length b
  unfold rowsI at hC
  have hS := conjS_ret (pcW ms w) (nform ms v) b i (by omega) hpx hnl hi hb hf
  by_cases hi0 : i = 0
  · have hbe := hb0 hi0
    subst hbe
    rw [if_pos hi0] at hS
    rw [if_neg (by simp), if_neg (by simp)]
    have hCl : Ret Tryd.prog G0 103 [⟨.ro, .one nilS⟩] ⟨.one (ints (natI [])), []⟩ := (clone_ret [] (by simp)).args (.ro (fun w Z v h => by cases h; exact .nil _ _) .nil)
    (refine ret_of_den (E := en 41 [] (fun _ => []) (fun _ => [])) tt_ok mixed Tryd.func43 rfl rfl rfl rfl ?_; refine ⟨by simp, ?_⟩)
    repeat' (first | ((first | refine opt_some (getC_rows rfl rfl (by omega)) ?_ | refine opt_some (by dsimp only; exact getC_lent rfl rfl (by omega)) ?_ | refine opt_some rfl ?_ | refine ⟨_, (by simp only [nf, nl, nm, en, ints, setC_setC, Nat.reduceAdd, Nat.reduceMul]; exact rfl), ?_⟩ | refine ⟨_, pickT rfl, ?_⟩ | refine ⟨_, rfl, ?_⟩ | refine iteP_true rfl ?_ | refine iteP_false rfl ?_ | refine iteP_true ‹_› ?_ | refine iteP_false ‹_› ?_ | refine andK ?_ | refine andA ?_ | refine andT ?_); conv => whnf) | (refine iteP_intro (fun hb => ?_) (fun hb => ?_) <;> (conv => whnf)))
    (refine ⟨_, hC, ?_⟩; conv => whnf)
    repeat' (first | ((first | refine opt_some (getC_rows rfl rfl (by omega)) ?_ | refine opt_some (by dsimp only; exact getC_lent rfl rfl (by omega)) ?_ | refine opt_some rfl ?_ | refine ⟨_, (by simp only [nf, nl, nm, en, ints, setC_setC, Nat.reduceAdd, Nat.reduceMul]; exact rfl), ?_⟩ | refine ⟨_, pickT rfl, ?_⟩ | refine ⟨_, rfl, ?_⟩ | refine iteP_true rfl ?_ | refine iteP_false rfl ?_ | refine iteP_true ‹_› ?_ | refine iteP_false ‹_› ?_ | refine andK ?_ | refine andA ?_ | refine andT ?_); conv => whnf) | (refine iteP_intro (fun hb => ?_) (fun hb => ?_) <;> (conv => whnf)))
    (refine ⟨_, hti, ?_⟩; conv => whnf)
    repeat' (first | ((first | refine opt_some (getC_rows rfl rfl (by omega)) ?_ | refine opt_some (by dsimp only; exact getC_lent rfl rfl (by omega)) ?_ | refine opt_some rfl ?_ | refine ⟨_, (by simp only [nf, nl, nm, en, ints, setC_setC, Nat.reduceAdd, Nat.reduceMul]; exact rfl), ?_⟩ | refine ⟨_, pickT rfl, ?_⟩ | refine ⟨_, rfl, ?_⟩ | refine iteP_true rfl ?_ | refine iteP_false rfl ?_ | refine iteP_true ‹_› ?_ | refine iteP_false ‹_› ?_ | refine andK ?_ | refine andA ?_ | refine andT ?_); conv => whnf) | (refine iteP_intro (fun hb => ?_) (fun hb => ?_) <;> (conv => whnf)))
    (refine ⟨_, hN, ?_⟩; conv => whnf)
    repeat' (first | ((first | refine opt_some (getC_rows rfl rfl (by omega)) ?_ | refine opt_some (by dsimp only; exact getC_lent rfl rfl (by omega)) ?_ | refine opt_some rfl ?_ | refine ⟨_, (by simp only [nf, nl, nm, en, ints, setC_setC, Nat.reduceAdd, Nat.reduceMul]; exact rfl), ?_⟩ | refine ⟨_, pickT rfl, ?_⟩ | refine ⟨_, rfl, ?_⟩ | refine iteP_true rfl ?_ | refine iteP_false rfl ?_ | refine iteP_true ‹_› ?_ | refine iteP_false ‹_› ?_ | refine andK ?_ | refine andA ?_ | refine andT ?_); conv => whnf) | (refine iteP_intro (fun hb => ?_) (fun hb => ?_) <;> (conv => whnf)))
    (refine ⟨_, hS, ?_⟩; conv => whnf)
    repeat' (first | ((first | refine opt_some (getC_rows rfl rfl (by omega)) ?_ | refine opt_some (by dsimp only; exact getC_lent rfl rfl (by omega)) ?_ | refine opt_some rfl ?_ | refine ⟨_, (by simp only [nf, nl, nm, en, ints, setC_setC, Nat.reduceAdd, Nat.reduceMul]; exact rfl), ?_⟩ | refine ⟨_, pickT rfl, ?_⟩ | refine ⟨_, rfl, ?_⟩ | refine iteP_true rfl ?_ | refine iteP_false rfl ?_ | refine iteP_true ‹_› ?_ | refine iteP_false ‹_› ?_ | refine andK ?_ | refine andA ?_ | refine andT ?_); conv => whnf) | (refine iteP_intro (fun hb => ?_) (fun hb => ?_) <;> (conv => whnf)))
    (refine ⟨_, hCl, ?_⟩; conv => whnf)
    repeat' (first | ((first | refine opt_some (getC_rows rfl rfl (by omega)) ?_ | refine opt_some (by dsimp only; exact getC_lent rfl rfl (by omega)) ?_ | refine opt_some rfl ?_ | refine ⟨_, (by simp only [nf, nl, nm, en, ints, setC_setC, Nat.reduceAdd, Nat.reduceMul]; exact rfl), ?_⟩ | refine ⟨_, pickT rfl, ?_⟩ | refine ⟨_, rfl, ?_⟩ | refine iteP_true rfl ?_ | refine iteP_false rfl ?_ | refine iteP_true ‹_› ?_ | refine iteP_false ‹_› ?_ | refine andK ?_ | refine andA ?_ | refine andT ?_); conv => whnf) | (refine iteP_intro (fun hb => ?_) (fun hb => ?_) <;> (conv => whnf)))
    rfl
  · rw [if_neg hi0] at hS
    have hCl := clone_ret (natI b) (by omega)
    by_cases hlg : 24 < b.length
    · rw [if_pos hlg, if_pos hlg]
      (refine ret_of_den (E := en 41 [] (fun _ => []) (fun _ => [])) tt_ok mixed Tryd.func43 rfl rfl rfl rfl ?_; refine ⟨by simp, ?_⟩)
      repeat' (first | ((first | refine opt_some (getC_rows rfl rfl (by omega)) ?_ | refine opt_some (by dsimp only; exact getC_lent rfl rfl (by omega)) ?_ | refine opt_some rfl ?_ | refine ⟨_, (by simp only [nf, nl, nm, en, ints, setC_setC, Nat.reduceAdd, Nat.reduceMul]; exact rfl), ?_⟩ | refine ⟨_, pickT rfl, ?_⟩ | refine ⟨_, rfl, ?_⟩ | refine iteP_true rfl ?_ | refine iteP_false rfl ?_ | refine iteP_true ‹_› ?_ | refine iteP_false ‹_› ?_ | refine andK ?_ | refine andA ?_ | refine andT ?_); conv => whnf) | (refine iteP_intro (fun hb => ?_) (fun hb => ?_) <;> (conv => whnf)))
      (refine ⟨_, hC, ?_⟩; conv => whnf)
      repeat' (first | ((first | refine opt_some (getC_rows rfl rfl (by omega)) ?_ | refine opt_some (by dsimp only; exact getC_lent rfl rfl (by omega)) ?_ | refine opt_some rfl ?_ | refine ⟨_, (by simp only [nf, nl, nm, en, ints, setC_setC, Nat.reduceAdd, Nat.reduceMul]; exact rfl), ?_⟩ | refine ⟨_, pickT rfl, ?_⟩ | refine ⟨_, rfl, ?_⟩ | refine iteP_true rfl ?_ | refine iteP_false rfl ?_ | refine iteP_true ‹_› ?_ | refine iteP_false ‹_› ?_ | refine andK ?_ | refine andA ?_ | refine andT ?_); conv => whnf) | (refine iteP_intro (fun hb => ?_) (fun hb => ?_) <;> (conv => whnf)))
      (refine ⟨_, hti, ?_⟩; conv => whnf)
      repeat' (first | ((first | refine opt_some (getC_rows rfl rfl (by omega)) ?_ | refine opt_some (by dsimp only; exact getC_lent rfl rfl (by omega)) ?_ | refine opt_some rfl ?_ | refine ⟨_, (by simp only [nf, nl, nm, en, ints, setC_setC, Nat.reduceAdd, Nat.reduceMul]; exact rfl), ?_⟩ | refine ⟨_, pickT rfl, ?_⟩ | refine ⟨_, rfl, ?_⟩ | refine iteP_true rfl ?_ | refine iteP_false rfl ?_ | refine iteP_true ‹_› ?_ | refine iteP_false ‹_› ?_ | refine andK ?_ | refine andA ?_ | refine andT ?_); conv => whnf) | (refine iteP_intro (fun hb => ?_) (fun hb => ?_) <;> (conv => whnf)))
      (refine ⟨_, hN, ?_⟩; conv => whnf)
      repeat' (first | ((first | refine opt_some (getC_rows rfl rfl (by omega)) ?_ | refine opt_some (by dsimp only; exact getC_lent rfl rfl (by omega)) ?_ | refine opt_some rfl ?_ | refine ⟨_, (by simp only [nf, nl, nm, en, ints, setC_setC, Nat.reduceAdd, Nat.reduceMul]; exact rfl), ?_⟩ | refine ⟨_, pickT rfl, ?_⟩ | refine ⟨_, rfl, ?_⟩ | refine iteP_true rfl ?_ | refine iteP_false rfl ?_ | refine iteP_true ‹_› ?_ | refine iteP_false ‹_› ?_ | refine andK ?_ | refine andA ?_ | refine andT ?_); conv => whnf) | (refine iteP_intro (fun hb => ?_) (fun hb => ?_) <;> (conv => whnf)))
      (refine ⟨_, hS, ?_⟩; conv => whnf)
      repeat' (first | ((first | refine opt_some (getC_rows rfl rfl (by omega)) ?_ | refine opt_some (by dsimp only; exact getC_lent rfl rfl (by omega)) ?_ | refine opt_some rfl ?_ | refine ⟨_, (by simp only [nf, nl, nm, en, ints, setC_setC, Nat.reduceAdd, Nat.reduceMul]; exact rfl), ?_⟩ | refine ⟨_, pickT rfl, ?_⟩ | refine ⟨_, rfl, ?_⟩ | refine iteP_true rfl ?_ | refine iteP_false rfl ?_ | refine iteP_true ‹_› ?_ | refine iteP_false ‹_› ?_ | refine andK ?_ | refine andA ?_ | refine andT ?_); conv => whnf) | (refine iteP_intro (fun hb => ?_) (fun hb => ?_) <;> (conv => whnf)))
      · rfl
      · exact absurd (leF ‹_›) (by omega)
    · rw [if_neg hlg, if_neg hlg]
      (refine ret_of_den (E := en 41 [] (fun _ => []) (fun _ => [])) tt_ok mixed Tryd.func43 rfl rfl rfl rfl ?_; refine ⟨by simp, ?_⟩)
      repeat' (first | ((first | refine opt_some (getC_rows rfl rfl (by omega)) ?_ | refine opt_some (by dsimp only; exact getC_lent rfl rfl (by omega)) ?_ | refine opt_some rfl ?_ | refine ⟨_, (by simp only [nf, nl, nm, en, ints, setC_setC, Nat.reduceAdd, Nat.reduceMul]; exact rfl), ?_⟩ | refine ⟨_, pickT rfl, ?_⟩ | refine ⟨_, rfl, ?_⟩ | refine iteP_true rfl ?_ | refine iteP_false rfl ?_ | refine iteP_true ‹_› ?_ | refine iteP_false ‹_› ?_ | refine andK ?_ | refine andA ?_ | refine andT ?_); conv => whnf) | (refine iteP_intro (fun hb => ?_) (fun hb => ?_) <;> (conv => whnf)))
      (refine ⟨_, hC, ?_⟩; conv => whnf)
      repeat' (first | ((first | refine opt_some (getC_rows rfl rfl (by omega)) ?_ | refine opt_some (by dsimp only; exact getC_lent rfl rfl (by omega)) ?_ | refine opt_some rfl ?_ | refine ⟨_, (by simp only [nf, nl, nm, en, ints, setC_setC, Nat.reduceAdd, Nat.reduceMul]; exact rfl), ?_⟩ | refine ⟨_, pickT rfl, ?_⟩ | refine ⟨_, rfl, ?_⟩ | refine iteP_true rfl ?_ | refine iteP_false rfl ?_ | refine iteP_true ‹_› ?_ | refine iteP_false ‹_› ?_ | refine andK ?_ | refine andA ?_ | refine andT ?_); conv => whnf) | (refine iteP_intro (fun hb => ?_) (fun hb => ?_) <;> (conv => whnf)))
      (refine ⟨_, hti, ?_⟩; conv => whnf)
      repeat' (first | ((first | refine opt_some (getC_rows rfl rfl (by omega)) ?_ | refine opt_some (by dsimp only; exact getC_lent rfl rfl (by omega)) ?_ | refine opt_some rfl ?_ | refine ⟨_, (by simp only [nf, nl, nm, en, ints, setC_setC, Nat.reduceAdd, Nat.reduceMul]; exact rfl), ?_⟩ | refine ⟨_, pickT rfl, ?_⟩ | refine ⟨_, rfl, ?_⟩ | refine iteP_true rfl ?_ | refine iteP_false rfl ?_ | refine iteP_true ‹_› ?_ | refine iteP_false ‹_› ?_ | refine andK ?_ | refine andA ?_ | refine andT ?_); conv => whnf) | (refine iteP_intro (fun hb => ?_) (fun hb => ?_) <;> (conv => whnf)))
      (refine ⟨_, hN, ?_⟩; conv => whnf)
      repeat' (first | ((first | refine opt_some (getC_rows rfl rfl (by omega)) ?_ | refine opt_some (by dsimp only; exact getC_lent rfl rfl (by omega)) ?_ | refine opt_some rfl ?_ | refine ⟨_, (by simp only [nf, nl, nm, en, ints, setC_setC, Nat.reduceAdd, Nat.reduceMul]; exact rfl), ?_⟩ | refine ⟨_, pickT rfl, ?_⟩ | refine ⟨_, rfl, ?_⟩ | refine iteP_true rfl ?_ | refine iteP_false rfl ?_ | refine iteP_true ‹_› ?_ | refine iteP_false ‹_› ?_ | refine andK ?_ | refine andA ?_ | refine andT ?_); conv => whnf) | (refine iteP_intro (fun hb => ?_) (fun hb => ?_) <;> (conv => whnf)))
      (refine ⟨_, hS, ?_⟩; conv => whnf)
      repeat' (first | ((first | refine opt_some (getC_rows rfl rfl (by omega)) ?_ | refine opt_some (by dsimp only; exact getC_lent rfl rfl (by omega)) ?_ | refine opt_some rfl ?_ | refine ⟨_, (by simp only [nf, nl, nm, en, ints, setC_setC, Nat.reduceAdd, Nat.reduceMul]; exact rfl), ?_⟩ | refine ⟨_, pickT rfl, ?_⟩ | refine ⟨_, rfl, ?_⟩ | refine iteP_true rfl ?_ | refine iteP_false rfl ?_ | refine iteP_true ‹_› ?_ | refine iteP_false ‹_› ?_ | refine andK ?_ | refine andA ?_ | refine andT ?_); conv => whnf) | (refine iteP_intro (fun hb => ?_) (fun hb => ?_) <;> (conv => whnf)))
      · exact absurd (leT ‹_›) (by omega)
      · (refine ⟨_, hCl, ?_⟩; conv => whnf)
        repeat' (first | ((first | refine opt_some (getC_rows rfl rfl (by omega)) ?_ | refine opt_some (by dsimp only; exact getC_lent rfl rfl (by omega)) ?_ | refine opt_some rfl ?_ | refine ⟨_, (by simp only [nf, nl, nm, en, ints, setC_setC, Nat.reduceAdd, Nat.reduceMul]; exact rfl), ?_⟩ | refine ⟨_, pickT rfl, ?_⟩ | refine ⟨_, rfl, ?_⟩ | refine iteP_true rfl ?_ | refine iteP_false rfl ?_ | refine iteP_true ‹_› ?_ | refine iteP_false ‹_› ?_ | refine andK ?_ | refine andA ?_ | refine andT ?_); conv => whnf) | (refine iteP_intro (fun hb => ?_) (fun hb => ?_) <;> (conv => whnf)))
        rfl
end Go.Proofs.YtpopepcmfanegaaDoor
