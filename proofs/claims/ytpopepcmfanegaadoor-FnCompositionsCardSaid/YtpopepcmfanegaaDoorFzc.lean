import Derived.Test.YtpopepcmfanegaaDoorFzb
set_option autoImplicit false
set_option linter.unusedSimpArgs false
set_option linter.unusedVariables false
namespace Go.Proofs.YtpopepcmfanegaaDoor
open Go.Den
theorem compR_0 {n : Int} {ds : List Int} {m : Int} {es : List Int} {l : Int} {us : List Int} {fs gs : List (List Int)} (h : (compR n ds m es l us fs gs).2 = 0) : ∃ (ms ks ls : List Nat) (ff gg : List (List Nat)), n = ms.length ∧ ds = natI ms ∧ m = ks.length ∧ es = natI ks ∧ l = ls.length ∧ us = natI ls ∧ ms.length ≤ 8 ∧ ks.length ≤ 8 ∧ ls.length ≤ 8 ∧ Alpha ms ∧ Alpha ks ∧ Alpha ls ∧ fs = ff.map natI ∧ gs = gg.map natI ∧ ff.length = ms.length ∧ gg.length = ks.length ∧ Wds ks ff ∧ Wds ls gg ∧ respN ms ks ff = true ∧ respN ks ls gg = true ∧ (∀ w ∈ ff, ¬ 24 < (imgN gg w).length) ∧ (compR n ds m es l us fs gs).1 = cmpN ls ff gg ∧ alphaOk ms.length (natI ms) = true ∧ alphaOk ks.length (natI ks) = true ∧ alphaOk ls.length (natI ls) = true ∧ (natI ms).map Int.toNat = ms ∧ (natI ks).map Int.toNat = ks ∧ (natI ls).map Int.toNat = ls := by
  cases h1 : (alphaOk n ds && alphaOk m es && alphaOk l us) with
  | false => rw [compR_1 h1] at h; cases h
  | true =>
    simp only [Bool.and_eq_true] at h1
    obtain ⟨⟨h1, h2⟩, h3⟩ := h1
    cases h4 : (mapOk n m fs && mapOk m l gs) with
    | false => rw [compR_2 h1 h2 h3 h4] at h; cases h
    | true =>
      have hm := h4
      rw [Bool.and_eq_true] at hm
      obtain ⟨ms, e1, rfl, rfl, hl1, hA⟩ := alpha_ok h1
      obtain ⟨ks, e2, rfl, rfl, hl2, hB⟩ := alpha_ok h2
      obtain ⟨ls, e3, rfl, rfl, hl3, hC⟩ := alpha_ok h3
      obtain ⟨ff, e4, rfl, hi, hws⟩ := map_ok hm.1
      obtain ⟨gg, e5, rfl, hj, hwt⟩ := map_ok hm.2
      have hR := compR_3 h1 h2 h3 h4 e1 e2 e3 e4 e5
      rw [hR] at h
      split at h
      · rename_i hr
        rw [if_pos hr] at hR
        split at h
        · cases h
        · rename_i ha
          rw [if_neg ha] at hR
          rw [Bool.and_eq_true] at hr
          exact ⟨ms, ks, ls, ff, gg, rfl, rfl, rfl, rfl, rfl, rfl, hl1, hl2, hl3, hA, hB, hC, rfl, rfl, hi, hj, hws, hwt, hr.1, hr.2, fun w hw hh => ha (List.any_eq_true.2 ⟨w, hw, decide_eq_true hh⟩), by rw [hR]; rfl, h1, h2, h3, e1, e2, e3⟩
      · cases h
theorem map_nat (im : List (List Nat)) : (im.map natI).map (·.map Int.toNat) = im := by
  rw [List.map_map]
  exact (List.map_congr_left fun w _ => map_toNat w).trans (List.map_id _)
theorem mapOk_of {n : Nat} {ks : List Nat} {im : List (List Nat)} (hl : im.length = n) (hw : Wds ks im) : mapOk n ks.length (im.map natI) = true := by
  unfold mapOk
  rw [List.length_map, Bool.and_eq_true, decide_eq_true_eq]
  refine ⟨by omega, List.all_eq_true.2 fun r hr => ?_⟩
  obtain ⟨w, hw', rfl⟩ := List.mem_map.1 hr
  exact wordN_of (hw w hw').2 (hw w hw').1
theorem morph_0 {ms ks : List Nat} {im : List (List Nat)} (h1 : alphaOk ms.length (natI ms) = true) (h2 : alphaOk ks.length (natI ks) = true) (e1 : (natI ms).map Int.toNat = ms) (e2 : (natI ks).map Int.toNat = ks) (hl : im.length = ms.length) (hw : Wds ks im) (hr : respN ms ks im = true) : morphC ms.length (natI ms) ks.length (natI ks) (im.map natI) true = 0 := by
  rw [morphC_3 h1 h2 (by rw [mapOk_of hl hw]; rfl) e1 e2 (map_nat im), hr]
  rfl
theorem imgR_in {ms ks w : List Nat} {im : List (List Nat)} (h1 : alphaOk ms.length (natI ms) = true) (h2 : alphaOk ks.length (natI ks) = true) (e1 : (natI ms).map Int.toNat = ms) (e2 : (natI ks).map Int.toNat = ks) (hl : im.length = ms.length) (hw : Wds ks im) (hr : respN ms ks im = true) (hwd : Wd ms w) (hwl : w.length ≤ 24) : imgR ms.length (natI ms) ks.length (natI ks) (im.map natI) (natI w) = if 24 < (imgN im w).length then ([], 3) else (nform ks (imgN im w), 0) :=
  imgR_ok (by rw [wordN_of hwd hwl]; exact morph_0 h1 h2 e1 e2 hl hw hr) e2 (map_nat im) (map_toNat w)
theorem cmp_img {ks ls w : List Nat} {ff gg : List (List Nat)} (hB : Alpha ks) (hC : Alpha ls) (hf : Wds ks ff) (hg : Wds ls gg) (h2 : respN ks ls gg = true) : nform ls (imgN gg (nform ks (imgN ff w))) = nform ls (imgN (cmpN ls ff gg) w) ∧ (imgN gg (nform ks (imgN ff w))).length = (imgN (cmpN ls ff gg) w).length := by
  by_cases hs : ∀ v ∈ cmpN ls ff gg, Wd ls v
  · have hwd : ∀ w, Wd ls (imgN (cmpN ls ff gg) w) := fun w c hc => by
      obtain ⟨a, -, ha⟩ := List.mem_flatMap.1 hc
      by_cases h : a < (cmpN ls ff gg).length
      · rw [List.getD_eq_getElem?_getD, List.getElem?_eq_getElem h, Option.getD_some] at ha
        exact hs _ (List.getElem_mem h) c ha
      · rw [List.getD_eq_getElem?_getD, List.getElem?_eq_none (by omega)] at ha
        simp at ha
    have hfw := imgN_wd hf w
    have h3 := img_eqv hB hC hg h2 (nform_wd hB hfw) hfw (nform_eqv hB hfw)
    exact nform_nat hC (imgN_wd hg _) (hwd w) (h3.trans (img_cmp (ks := ks) hC hg w))
  · exact absurd (fun v hv => by
      obtain ⟨u, -, rfl⟩ := List.mem_map.1 hv
      exact nform_wd hC (imgN_wd hg u)) hs
set_option maxHeartbeats 4000000 in
set_option maxRecDepth 100000 in
theorem lawCmp_ret (bs : List Int) (hb : Byts bs) (hx : bs.length < 2 ^ 62) : Ret Tryd.prog G0 4 [⟨.ro, .one (byC bs)⟩] ⟨.one (.c (.bool true)), []⟩ := by
  by_cases hbig : bs.length ≤ 4096
  rotate_left
  · have hB := big_ret bs hx
    rw [decide_eq_true (by omega : 4096 < (bs.length : Int))] at hB
    unfold byC at *
    (refine ret_of_den (E := en 122 [] (fun _ => [(3, 0), (4, 0), (5, 0), (6, 0), (7, 0), (8, 0), (12, 0), (13, 0), (14, 0)]) (fun _ => [])) tt_ok mixed Tryd.func4 rfl rfl rfl rfl ?_; refine ⟨by simp, ?_⟩)
    repeat' (first | ((first | refine opt_some (getC_rows rfl rfl (by omega)) ?_ | refine opt_some (by dsimp only; exact getC_lent rfl rfl (by omega)) ?_ | refine opt_some rfl ?_ | refine ⟨_, (by simp only [nf, nl, nm, en, ints, setC_setC, Nat.reduceAdd, Nat.reduceMul]; exact rfl), ?_⟩ | refine ⟨_, pickT rfl, ?_⟩ | refine ⟨_, rfl, ?_⟩ | refine iteP_true rfl ?_ | refine iteP_false rfl ?_ | refine iteP_true ‹_› ?_ | refine iteP_false ‹_› ?_ | refine andK ?_ | refine andA ?_ | refine andT ?_); conv => whnf) | (refine iteP_intro (fun hb => ?_) (fun hb => ?_) <;> (conv => whnf)))
    (refine ⟨_, hB, ?_⟩; conv => whnf)
    repeat' (first | ((first | refine opt_some (getC_rows rfl rfl (by omega)) ?_ | refine opt_some (by dsimp only; exact getC_lent rfl rfl (by omega)) ?_ | refine opt_some rfl ?_ | refine ⟨_, (by simp only [nf, nl, nm, en, ints, setC_setC, Nat.reduceAdd, Nat.reduceMul]; exact rfl), ?_⟩ | refine ⟨_, pickT rfl, ?_⟩ | refine ⟨_, rfl, ?_⟩ | refine iteP_true rfl ?_ | refine iteP_false rfl ?_ | refine iteP_true ‹_› ?_ | refine iteP_false ‹_› ?_ | refine andK ?_ | refine andA ?_ | refine andT ?_); conv => whnf) | (refine iteP_intro (fun hb => ?_) (fun hb => ?_) <;> (conv => whnf)))
    rfl
  have hs : Src bs := ⟨hb, hbig⟩
  have hBg := big_ret bs hx
  rw [decide_eq_false (by omega : ¬ 4096 < (bs.length : Int))] at hBg
  obtain ⟨r0, ⟨ms, m, l, es, us, fs, gs, D, U, rfl, -, hml8, hel, hul, hRf, hRg, hD⟩, hr0⟩ := drawComp_ex bs hs
  have hmn := natI_length ms
  have hfx : ∀ r ∈ fs, r.length < 2 ^ 62 := fun r hr => by have := hRf.2 r hr; omega
  have hgx : ∀ r ∈ gs, r.length < 2 ^ 62 := fun r hr => by have := hRg.2 r hr; omega
  have hfl := hRf.1
  have hgl := hRg.1
  have hml : (natI ms).length < 2 ^ 62 := by omega
  have hI := compI_ret ms.length m l (natI ms) es us fs gs hml (by omega) (by omega) (by omega) hfx (by omega) hgx
  have hS := compS_ret ms.length m l (natI ms) es us fs gs hml (by omega) (by omega) (by omega) hfx (by omega) hgx
  have hsm := compR_small ms.length (natI ms) m es l us fs gs
  have hlk := likeRows_ret ((compR ms.length (natI ms) m es l us fs gs).1.map natI) ((compR ms.length (natI ms) m es l us fs gs).1.map natI) (by omega) (fun r hr => by have := tot_mem hr; omega)
  rw [decide_eq_true rfl, ← rowsC_I] at hlk
  by_cases h0 : (compR ms.length (natI ms) m es l us fs gs).2 = 0
  rotate_left
  · obtain ⟨c, hc⟩ : ∃ c, (compR ms.length (natI ms) m es l us fs gs).2 = c := ⟨_, rfl⟩
    obtain ⟨y, hy⟩ : ∃ y, (compR ms.length (natI ms) m es l us fs gs).1 = y := ⟨_, rfl⟩
    rw [hc] at hI hS h0
    rw [hy] at hI hS hlk
    have h1 : (c != c) = false := by simp
    have h2 : (c != 0) = true := by simpa using h0
    unfold byC rowsC rowsI at *
    rcases hD with ⟨-, rfl | rfl, rfl⟩ | ⟨rfl, rfl⟩
    all_goals
      (refine ret_of_den (E := en 122 [] (fun _ => [(3, 0), (4, 0), (5, 0), (6, 0), (7, 0), (8, 0), (12, 0), (13, 0), (14, 0)]) (fun _ => [])) tt_ok mixed Tryd.func4 rfl rfl rfl rfl ?_; refine ⟨by simp, ?_⟩)
      repeat' (first | ((first | refine opt_some (getC_rows rfl rfl (by omega)) ?_ | refine opt_some (by dsimp only; exact getC_lent rfl rfl (by omega)) ?_ | refine opt_some rfl ?_ | refine ⟨_, (by simp only [nf, nl, nm, en, ints, setC_setC, Nat.reduceAdd, Nat.reduceMul]; exact rfl), ?_⟩ | refine ⟨_, pickT rfl, ?_⟩ | refine ⟨_, rfl, ?_⟩ | refine iteP_true rfl ?_ | refine iteP_false rfl ?_ | refine iteP_true ‹_› ?_ | refine iteP_false ‹_› ?_ | refine andK ?_ | refine andA ?_ | refine andT ?_); conv => whnf) | (refine iteP_intro (fun hb => ?_) (fun hb => ?_) <;> (conv => whnf)))
      (refine ⟨_, hBg, ?_⟩; conv => whnf)
      repeat' (first | ((first | refine opt_some (getC_rows rfl rfl (by omega)) ?_ | refine opt_some (by dsimp only; exact getC_lent rfl rfl (by omega)) ?_ | refine opt_some rfl ?_ | refine ⟨_, (by simp only [nf, nl, nm, en, ints, setC_setC, Nat.reduceAdd, Nat.reduceMul]; exact rfl), ?_⟩ | refine ⟨_, pickT rfl, ?_⟩ | refine ⟨_, rfl, ?_⟩ | refine iteP_true rfl ?_ | refine iteP_false rfl ?_ | refine iteP_true ‹_› ?_ | refine iteP_false ‹_› ?_ | refine andK ?_ | refine andA ?_ | refine andT ?_); conv => whnf) | (refine iteP_intro (fun hb => ?_) (fun hb => ?_) <;> (conv => whnf)))
      (refine ⟨_, hr0, ?_⟩; conv => whnf)
      repeat' (first | ((first | refine opt_some (getC_rows rfl rfl (by omega)) ?_ | refine opt_some (by dsimp only; exact getC_lent rfl rfl (by omega)) ?_ | refine opt_some rfl ?_ | refine ⟨_, (by simp only [nf, nl, nm, en, ints, setC_setC, Nat.reduceAdd, Nat.reduceMul]; exact rfl), ?_⟩ | refine ⟨_, pickT rfl, ?_⟩ | refine ⟨_, rfl, ?_⟩ | refine iteP_true rfl ?_ | refine iteP_false rfl ?_ | refine iteP_true ‹_› ?_ | refine iteP_false ‹_› ?_ | refine andK ?_ | refine andA ?_ | refine andT ?_); conv => whnf) | (refine iteP_intro (fun hb => ?_) (fun hb => ?_) <;> (conv => whnf)))
      (refine ⟨_, hI, ?_⟩; conv => whnf)
      repeat' (first | ((first | refine opt_some (getC_rows rfl rfl (by omega)) ?_ | refine opt_some (by dsimp only; exact getC_lent rfl rfl (by omega)) ?_ | refine opt_some rfl ?_ | refine ⟨_, (by simp only [nf, nl, nm, en, ints, setC_setC, Nat.reduceAdd, Nat.reduceMul]; exact rfl), ?_⟩ | refine ⟨_, pickT rfl, ?_⟩ | refine ⟨_, rfl, ?_⟩ | refine iteP_true rfl ?_ | refine iteP_false rfl ?_ | refine iteP_true ‹_› ?_ | refine iteP_false ‹_› ?_ | refine andK ?_ | refine andA ?_ | refine andT ?_); conv => whnf) | (refine iteP_intro (fun hb => ?_) (fun hb => ?_) <;> (conv => whnf)))
      (refine ⟨_, hS, ?_⟩; conv => whnf)
      repeat' (first | ((first | refine opt_some (getC_rows rfl rfl (by omega)) ?_ | refine opt_some (by dsimp only; exact getC_lent rfl rfl (by omega)) ?_ | refine opt_some rfl ?_ | refine ⟨_, (by simp only [nf, nl, nm, en, ints, setC_setC, Nat.reduceAdd, Nat.reduceMul]; exact rfl), ?_⟩ | refine ⟨_, pickT rfl, ?_⟩ | refine ⟨_, rfl, ?_⟩ | refine iteP_true rfl ?_ | refine iteP_false rfl ?_ | refine iteP_true ‹_› ?_ | refine iteP_false ‹_› ?_ | refine andK ?_ | refine andA ?_ | refine andT ?_); conv => whnf) | (refine iteP_intro (fun hb => ?_) (fun hb => ?_) <;> (conv => whnf)))
      (refine ⟨_, hlk, ?_⟩; conv => whnf)
      repeat' (first | ((first | refine opt_some (getC_rows rfl rfl (by omega)) ?_ | refine opt_some (by dsimp only; exact getC_lent rfl rfl (by omega)) ?_ | refine opt_some rfl ?_ | refine ⟨_, (by simp only [nf, nl, nm, en, ints, setC_setC, Nat.reduceAdd, Nat.reduceMul]; exact rfl), ?_⟩ | refine ⟨_, pickT rfl, ?_⟩ | refine ⟨_, rfl, ?_⟩ | refine iteP_true rfl ?_ | refine iteP_false rfl ?_ | refine iteP_true ‹_› ?_ | refine iteP_false ‹_› ?_ | refine andK ?_ | refine andA ?_ | refine andT ?_); conv => whnf) | (refine iteP_intro (fun hb => ?_) (fun hb => ?_) <;> (conv => whnf)))
      rfl
  have hcz := compR_0 h0
  obtain ⟨ms', ks, ls, ff, gg, -, ed, rfl, rfl, rfl, rfl, -, hl2, hl3, hA, hB, hC, rfl, rfl, hlf, hlg, hwf, hwg, hr1', hr2', hsz, hcm, q1, q2, q3, e1, e2, e3⟩ := hcz
  have he : ms = ms' := by rw [← map_toNat ms, ed, map_toNat]
  subst he
  have hkn := natI_length ks
  have hln := natI_length ls
  have hck := fun w => cmp_img (w := w) hB hC hwf hwg hr2'
  have hwh := cmpN_wds hC hwg hsz
  have hrh := cmpN_resp hA hB hC hwf hwg hr1' hr2'
  have hlh : (cmpN ls ff gg).length = ms.length := by rw [← hlf]; exact List.length_map _
  rw [h0, hcm] at hI hS
  rw [hcm] at hlk
  have hE0 : ∃ hh, cmpN ls ff gg = hh := ⟨_, rfl⟩
  obtain ⟨hh, hhe⟩ := hE0
  rw [hhe] at hI hS hlk hwh hrh hlh
  rw [hhe] at hck
  have hhl2 : (hh.map natI).length < 2 ^ 62 := by rw [List.length_map]; omega
  have hfl2 : (ff.map natI).length < 2 ^ 62 := by rw [List.length_map]; omega
  have hgl2 : (gg.map natI).length < 2 ^ 62 := by rw [List.length_map]; omega
  have hhx : ∀ r ∈ hh.map natI, r.length < 2 ^ 62 := fun r hr => by
    obtain ⟨w, hw, rfl⟩ := List.mem_map.1 hr
    have := (hwh w hw).1
    rw [natI_length]
    omega
  have hM := isMorI_ret ms.length ls.length (natI ms) (natI ls) (hh.map natI) (by omega) (by omega) hhl2 hhx
  rw [morph_0 q1 q3 e1 e3 hlh hwh hrh, decide_eq_true rfl, ← rowsC_I] at hM
  obtain ⟨r1, ⟨g1, rfl⟩, hr1⟩ := roll_ex bs hs 514
  have ha0 : At0 bs 0 := ⟨by omega, by omega⟩
  obtain ⟨r2, ⟨x2, a2, g2, rfl, ha2, hx20, -, hx21⟩, hr2⟩ := below_ex bs hs 0 g1 5 ha0
  have hx21 := hx21 (by omega)
  obtain ⟨q, rfl⟩ : ∃ q : Nat, x2 = q := ⟨x2.toNat, by omega⟩
  have hbe := fun a h ha => below_ex bs hs a h ms.length ha
  rcases hD with ⟨hbad, -, -⟩ | ⟨rfl, rfl⟩
  · rw [q2] at hbad
    cases hbad
  unfold srcC byC rowsC rowsI at *
  (refine ret_of_den (E := en 122 [] (fun _ => [(3, 0), (4, 0), (5, 0), (6, 0), (7, 0), (8, 0), (12, 0), (13, 0), (14, 0)]) (fun _ => [])) tt_ok mixed Tryd.func4 rfl rfl rfl rfl ?_; refine ⟨by simp, ?_⟩)
  repeat' (first | ((first | refine opt_some (getC_rows rfl rfl (by omega)) ?_ | refine opt_some (by dsimp only; exact getC_lent rfl rfl (by omega)) ?_ | refine opt_some rfl ?_ | refine ⟨_, (by simp only [nf, nl, nm, en, ints, setC_setC, Nat.reduceAdd, Nat.reduceMul]; exact rfl), ?_⟩ | refine ⟨_, pickT rfl, ?_⟩ | refine ⟨_, rfl, ?_⟩ | refine iteP_true rfl ?_ | refine iteP_false rfl ?_ | refine iteP_true ‹_› ?_ | refine iteP_false ‹_› ?_ | refine andK ?_ | refine andA ?_ | refine andT ?_); conv => whnf) | (refine iteP_intro (fun hb => ?_) (fun hb => ?_) <;> (conv => whnf)))
  (refine ⟨_, hBg, ?_⟩; conv => whnf)
  repeat' (first | ((first | refine opt_some (getC_rows rfl rfl (by omega)) ?_ | refine opt_some (by dsimp only; exact getC_lent rfl rfl (by omega)) ?_ | refine opt_some rfl ?_ | refine ⟨_, (by simp only [nf, nl, nm, en, ints, setC_setC, Nat.reduceAdd, Nat.reduceMul]; exact rfl), ?_⟩ | refine ⟨_, pickT rfl, ?_⟩ | refine ⟨_, rfl, ?_⟩ | refine iteP_true rfl ?_ | refine iteP_false rfl ?_ | refine iteP_true ‹_› ?_ | refine iteP_false ‹_› ?_ | refine andK ?_ | refine andA ?_ | refine andT ?_); conv => whnf) | (refine iteP_intro (fun hb => ?_) (fun hb => ?_) <;> (conv => whnf)))
  (refine ⟨_, hr0, ?_⟩; conv => whnf)
  repeat' (first | ((first | refine opt_some (getC_rows rfl rfl (by omega)) ?_ | refine opt_some (by dsimp only; exact getC_lent rfl rfl (by omega)) ?_ | refine opt_some rfl ?_ | refine ⟨_, (by simp only [nf, nl, nm, en, ints, setC_setC, Nat.reduceAdd, Nat.reduceMul]; exact rfl), ?_⟩ | refine ⟨_, pickT rfl, ?_⟩ | refine ⟨_, rfl, ?_⟩ | refine iteP_true rfl ?_ | refine iteP_false rfl ?_ | refine iteP_true ‹_› ?_ | refine iteP_false ‹_› ?_ | refine andK ?_ | refine andA ?_ | refine andT ?_); conv => whnf) | (refine iteP_intro (fun hb => ?_) (fun hb => ?_) <;> (conv => whnf)))
  (refine ⟨_, hI, ?_⟩; conv => whnf)
  repeat' (first | ((first | refine opt_some (getC_rows rfl rfl (by omega)) ?_ | refine opt_some (by dsimp only; exact getC_lent rfl rfl (by omega)) ?_ | refine opt_some rfl ?_ | refine ⟨_, (by simp only [nf, nl, nm, en, ints, setC_setC, Nat.reduceAdd, Nat.reduceMul]; exact rfl), ?_⟩ | refine ⟨_, pickT rfl, ?_⟩ | refine ⟨_, rfl, ?_⟩ | refine iteP_true rfl ?_ | refine iteP_false rfl ?_ | refine iteP_true ‹_› ?_ | refine iteP_false ‹_› ?_ | refine andK ?_ | refine andA ?_ | refine andT ?_); conv => whnf) | (refine iteP_intro (fun hb => ?_) (fun hb => ?_) <;> (conv => whnf)))
  (refine ⟨_, hS, ?_⟩; conv => whnf)
  repeat' (first | ((first | refine opt_some (getC_rows rfl rfl (by omega)) ?_ | refine opt_some (by dsimp only; exact getC_lent rfl rfl (by omega)) ?_ | refine opt_some rfl ?_ | refine ⟨_, (by simp only [nf, nl, nm, en, ints, setC_setC, Nat.reduceAdd, Nat.reduceMul]; exact rfl), ?_⟩ | refine ⟨_, pickT rfl, ?_⟩ | refine ⟨_, rfl, ?_⟩ | refine iteP_true rfl ?_ | refine iteP_false rfl ?_ | refine iteP_true ‹_› ?_ | refine iteP_false ‹_› ?_ | refine andK ?_ | refine andA ?_ | refine andT ?_); conv => whnf) | (refine iteP_intro (fun hb => ?_) (fun hb => ?_) <;> (conv => whnf)))
  (refine ⟨_, hlk, ?_⟩; conv => whnf)
  repeat' (first | ((first | refine opt_some (getC_rows rfl rfl (by omega)) ?_ | refine opt_some (by dsimp only; exact getC_lent rfl rfl (by omega)) ?_ | refine opt_some rfl ?_ | refine ⟨_, (by simp only [nf, nl, nm, en, ints, setC_setC, Nat.reduceAdd, Nat.reduceMul]; exact rfl), ?_⟩ | refine ⟨_, pickT rfl, ?_⟩ | refine ⟨_, rfl, ?_⟩ | refine iteP_true rfl ?_ | refine iteP_false rfl ?_ | refine iteP_true ‹_› ?_ | refine iteP_false ‹_› ?_ | refine andK ?_ | refine andA ?_ | refine andT ?_); conv => whnf) | (refine iteP_intro (fun hb => ?_) (fun hb => ?_) <;> (conv => whnf)))
  (refine ⟨_, hM, ?_⟩; conv => whnf)
  repeat' (first | ((first | refine opt_some (getC_rows rfl rfl (by omega)) ?_ | refine opt_some (by dsimp only; exact getC_lent rfl rfl (by omega)) ?_ | refine opt_some rfl ?_ | refine ⟨_, (by simp only [nf, nl, nm, en, ints, setC_setC, Nat.reduceAdd, Nat.reduceMul]; exact rfl), ?_⟩ | refine ⟨_, pickT rfl, ?_⟩ | refine ⟨_, rfl, ?_⟩ | refine iteP_true rfl ?_ | refine iteP_false rfl ?_ | refine iteP_true ‹_› ?_ | refine iteP_false ‹_› ?_ | refine andK ?_ | refine andA ?_ | refine andT ?_); conv => whnf) | (refine iteP_intro (fun hb => ?_) (fun hb => ?_) <;> (conv => whnf)))
  (refine ⟨_, hr1, ?_⟩; conv => whnf)
  repeat' (first | ((first | refine opt_some (getC_rows rfl rfl (by omega)) ?_ | refine opt_some (by dsimp only; exact getC_lent rfl rfl (by omega)) ?_ | refine opt_some rfl ?_ | refine ⟨_, (by simp only [nf, nl, nm, en, ints, setC_setC, Nat.reduceAdd, Nat.reduceMul]; exact rfl), ?_⟩ | refine ⟨_, pickT rfl, ?_⟩ | refine ⟨_, rfl, ?_⟩ | refine iteP_true rfl ?_ | refine iteP_false rfl ?_ | refine iteP_true ‹_› ?_ | refine iteP_false ‹_› ?_ | refine andK ?_ | refine andA ?_ | refine andT ?_); conv => whnf) | (refine iteP_intro (fun hb => ?_) (fun hb => ?_) <;> (conv => whnf)))
  (refine ⟨_, hr2, ?_⟩; conv => whnf)
  repeat' (first | ((first | refine opt_some (getC_rows rfl rfl (by omega)) ?_ | refine opt_some (by dsimp only; exact getC_lent rfl rfl (by omega)) ?_ | refine opt_some rfl ?_ | refine ⟨_, (by simp only [nf, nl, nm, en, ints, setC_setC, Nat.reduceAdd, Nat.reduceMul]; exact rfl), ?_⟩ | refine ⟨_, pickT rfl, ?_⟩ | refine ⟨_, rfl, ?_⟩ | refine iteP_true rfl ?_ | refine iteP_false rfl ?_ | refine iteP_true ‹_› ?_ | refine iteP_false ‹_› ?_ | refine andK ?_ | refine andA ?_ | refine andT ?_); conv => whnf) | (refine iteP_intro (fun hb => ?_) (fun hb => ?_) <;> (conv => whnf)))
  refine ⟨fun k vs => ∃ (w : List Nat) (q : Nat) (a' h' : Int), At0 bs a' ∧ Wd ms w ∧ w.length + q ≤ 4 ∧ vs = [.one (.ptr [i64 ms.length, .shd (ints (natI ms))]), .one (.ptr [i64 ks.length, .shd (ints (natI ks))]), .one (.ptr [i64 ls.length, .shd (ints (natI ls))]), .one (.sl false 1 (ff.map natI).length ((ff.map natI).map ints)), .one (.sl false 1 (gg.map natI).length ((gg.map natI).map ints)), .one (.sl false 1 hh.length (hh.map fun r => ints (natI r))), .one (.ptr [.shd (.sl false 1 bs.length (bs.map u8c)), i64 a', .c (.int .u64 h')]), .one (ints (natI w)), .one (i64 q)] ∧ k = q, rfl, ⟨_, [], q, a2, g2, ha2, .nil _, by simp; omega, rfl, rfl⟩, ?_⟩
  rintro p vs ⟨w, q, a3, h3, ha3, hw, hwl, rfl, rfl⟩
  have hwn := natI_length w
  repeat (first | ((first | refine opt_some (getC_rows rfl rfl (by omega)) ?_ | refine opt_some (by dsimp only; exact getC_lent rfl rfl (by omega)) ?_ | refine opt_some rfl ?_ | refine ⟨_, (by simp only [nf, nl, nm, en, ints, setC_setC, Nat.reduceAdd, Nat.reduceMul]; exact rfl), ?_⟩ | refine ⟨_, pickT rfl, ?_⟩ | refine ⟨_, rfl, ?_⟩ | refine iteP_true rfl ?_ | refine iteP_false rfl ?_ | refine iteP_true ‹_› ?_ | refine iteP_false ‹_› ?_ | refine andK ?_ | refine andA ?_ | refine andT ?_); conv => whnf))
  refine iteP_intro (fun hb => ?_) (fun hb => ?_) <;> (conv => whnf)
  · have hq : 0 < p := by have := leT hb; omega
    have hq1 : IntKind.i64.wrap ((p : Int) - 1) = ((p - 1 : Nat) : Int) := by rw [wrap_i64 (by omega) (by omega)]; omega
    repeat (first | ((first | refine opt_some (getC_rows rfl rfl (by omega)) ?_ | refine opt_some (by dsimp only; exact getC_lent rfl rfl (by omega)) ?_ | refine opt_some rfl ?_ | refine ⟨_, (by simp only [nf, nl, nm, en, ints, setC_setC, Nat.reduceAdd, Nat.reduceMul]; exact rfl), ?_⟩ | refine ⟨_, pickT rfl, ?_⟩ | refine ⟨_, rfl, ?_⟩ | refine iteP_true rfl ?_ | refine iteP_false rfl ?_ | refine iteP_true ‹_› ?_ | refine iteP_false ‹_› ?_ | refine andK ?_ | refine andA ?_ | refine andT ?_); conv => whnf))
    refine iteP_intro (fun hb => ?_) (fun hb => ?_) <;> (conv => whnf)
    · have hm0 : 0 < ms.length := by have := leT hb; omega
      obtain ⟨r4, ⟨x4, a4, h4, rfl, ha4, hx40, -, hx41⟩, hr4⟩ := hbe a3 h3 ha3
      have hx41 := hx41 (by omega)
      obtain ⟨c, rfl⟩ : ∃ c : Nat, x4 = c := ⟨x4.toNat, by omega⟩
      have hwc : Wd ms (w ++ [c]) := fun x hx => (List.mem_append.1 hx).elim (hw x) fun h => by have := List.mem_singleton.1 h; omega
      repeat (first | ((first | refine opt_some (getC_rows rfl rfl (by omega)) ?_ | refine opt_some (by dsimp only; exact getC_lent rfl rfl (by omega)) ?_ | refine opt_some rfl ?_ | refine ⟨_, (by simp only [nf, nl, nm, en, ints, setC_setC, Nat.reduceAdd, Nat.reduceMul]; exact rfl), ?_⟩ | refine ⟨_, pickT rfl, ?_⟩ | refine ⟨_, rfl, ?_⟩ | refine iteP_true rfl ?_ | refine iteP_false rfl ?_ | refine iteP_true ‹_› ?_ | refine iteP_false ‹_› ?_ | refine andK ?_ | refine andA ?_ | refine andT ?_); conv => whnf))
      (refine ⟨_, hr4, ?_⟩; conv => whnf)
      repeat (first | ((first | refine opt_some (getC_rows rfl rfl (by omega)) ?_ | refine opt_some (by dsimp only; exact getC_lent rfl rfl (by omega)) ?_ | refine opt_some rfl ?_ | refine ⟨_, (by simp only [nf, nl, nm, en, ints, setC_setC, Nat.reduceAdd, Nat.reduceMul, hq1]; exact rfl), ?_⟩ | refine ⟨_, pickT rfl, ?_⟩ | refine ⟨_, rfl, ?_⟩ | refine iteP_true rfl ?_ | refine iteP_false rfl ?_ | refine iteP_true ‹_› ?_ | refine iteP_false ‹_› ?_ | refine andK ?_ | refine andA ?_ | refine andT ?_); conv => whnf))
      refine ⟨_, ?_, w ++ [c], p - 1, a4, h4, ha4, hwc, by rw [List.length_append, List.length_singleton]; omega, ?_, rfl⟩
      · omega
      · rw [ints_natI_snoc]
        rfl
    · have hcl := 0
      have hw24 : w.length ≤ 24 := by omega
      have hI1 := imageOfI_ret ms.length ks.length (natI ms) (natI ks) (ff.map natI) (natI w) (by omega) (by omega) hfl2 hfx (by omega)
      rw [imgR_in q1 q2 e1 e2 hlf hwf hr1' hw hw24] at hI1
      by_cases hlen : 24 < (imgN ff w).length
      · rw [if_pos hlen] at hI1
        unfold rowsI at hI1
        repeat (first | ((first | refine opt_some (getC_rows rfl rfl (by omega)) ?_ | refine opt_some (by dsimp only; exact getC_lent rfl rfl (by omega)) ?_ | refine opt_some rfl ?_ | refine ⟨_, (by simp only [nf, nl, nm, en, ints, setC_setC, Nat.reduceAdd, Nat.reduceMul]; exact rfl), ?_⟩ | refine ⟨_, pickT rfl, ?_⟩ | refine ⟨_, rfl, ?_⟩ | refine iteP_true rfl ?_ | refine iteP_false rfl ?_ | refine iteP_true ‹_› ?_ | refine iteP_false ‹_› ?_ | refine andK ?_ | refine andA ?_ | refine andT ?_); conv => whnf))
        (refine ⟨_, hI1, ?_⟩; conv => whnf)
        repeat' (first | ((first | refine opt_some (getC_rows rfl rfl (by omega)) ?_ | refine opt_some (by dsimp only; exact getC_lent rfl rfl (by omega)) ?_ | refine opt_some rfl ?_ | refine ⟨_, (by simp only [nf, nl, nm, en, ints, setC_setC, Nat.reduceAdd, Nat.reduceMul]; exact rfl), ?_⟩ | refine ⟨_, pickT rfl, ?_⟩ | refine ⟨_, rfl, ?_⟩ | refine iteP_true rfl ?_ | refine iteP_false rfl ?_ | refine iteP_true ‹_› ?_ | refine iteP_false ‹_› ?_ | refine andK ?_ | refine andA ?_ | refine andT ?_); conv => whnf) | (refine iteP_intro (fun hb => ?_) (fun hb => ?_) <;> (conv => whnf)))
        rfl
      · rw [if_neg hlen] at hI1
        have hnl : (nform ks (imgN ff w)).length ≤ 24 := by rw [nform_length hB (imgN_wd hwf w)]; omega
        have hnn := natI_length (nform ks (imgN ff w))
        have hI2 := imageOfI_ret ks.length ls.length (natI ks) (natI ls) (gg.map natI) (natI (nform ks (imgN ff w))) (by omega) (by omega) hgl2 hgx (by omega)
        rw [imgR_in q2 q3 e2 e3 hlg hwg hr2' (nform_wd hB (imgN_wd hwf w)) hnl, (hck w).1, (hck w).2] at hI2
        have hI3 := imageOfI_ret ms.length ls.length (natI ms) (natI ls) (hh.map natI) (natI w) (by omega) (by omega) hhl2 hhx (by omega)
        rw [imgR_in q1 q3 e1 e3 hlh hwh hrh hw hw24, ← rowsC_I] at hI3
        have hvl : (if 24 < (imgN hh w).length then (([], 3) : List Nat × Int) else (nform ls (imgN hh w), 0)).1.length ≤ 24 := by
          split
          · simp
          · rw [nform_length hC (imgN_wd hwh w)]; omega
        have hE : ∃ p : List Nat × Int, (if 24 < (imgN hh w).length then (([], 3) : List Nat × Int) else (nform ls (imgN hh w), 0)) = p := ⟨_, rfl⟩
        obtain ⟨⟨v, c⟩, hp⟩ := hE
        rw [hp] at hI2 hI3 hvl
        have hvn := natI_length v
        have hvl : v.length ≤ 24 := hvl
        have hlk2 := likeInts_ret (natI v) (natI v) (by omega)
        rw [decide_eq_true rfl] at hlk2
        have h1 : (c == c) = true := by simp
        unfold rowsI at hI1 hI2
        unfold rowsC at hI3
        repeat (first | ((first | refine opt_some (getC_rows rfl rfl (by omega)) ?_ | refine opt_some (by dsimp only; exact getC_lent rfl rfl (by omega)) ?_ | refine opt_some rfl ?_ | refine ⟨_, (by simp only [nf, nl, nm, en, ints, setC_setC, Nat.reduceAdd, Nat.reduceMul]; exact rfl), ?_⟩ | refine ⟨_, pickT rfl, ?_⟩ | refine ⟨_, rfl, ?_⟩ | refine iteP_true rfl ?_ | refine iteP_false rfl ?_ | refine iteP_true ‹_› ?_ | refine iteP_false ‹_› ?_ | refine andK ?_ | refine andA ?_ | refine andT ?_); conv => whnf))
        (refine ⟨_, hI1, ?_⟩; conv => whnf)
        repeat' (first | ((first | refine opt_some (getC_rows rfl rfl (by omega)) ?_ | refine opt_some (by dsimp only; exact getC_lent rfl rfl (by omega)) ?_ | refine opt_some rfl ?_ | refine ⟨_, (by simp only [nf, nl, nm, en, ints, setC_setC, Nat.reduceAdd, Nat.reduceMul]; exact rfl), ?_⟩ | refine ⟨_, pickT rfl, ?_⟩ | refine ⟨_, rfl, ?_⟩ | refine iteP_true rfl ?_ | refine iteP_false rfl ?_ | refine iteP_true ‹_› ?_ | refine iteP_false ‹_› ?_ | refine andK ?_ | refine andA ?_ | refine andT ?_); conv => whnf) | (refine iteP_intro (fun hb => ?_) (fun hb => ?_) <;> (conv => whnf)))
        (refine ⟨_, hI2, ?_⟩; conv => whnf)
        repeat' (first | ((first | refine opt_some (getC_rows rfl rfl (by omega)) ?_ | refine opt_some (by dsimp only; exact getC_lent rfl rfl (by omega)) ?_ | refine opt_some rfl ?_ | refine ⟨_, (by simp only [nf, nl, nm, en, ints, setC_setC, Nat.reduceAdd, Nat.reduceMul]; exact rfl), ?_⟩ | refine ⟨_, pickT rfl, ?_⟩ | refine ⟨_, rfl, ?_⟩ | refine iteP_true rfl ?_ | refine iteP_false rfl ?_ | refine iteP_true ‹_› ?_ | refine iteP_false ‹_› ?_ | refine andK ?_ | refine andA ?_ | refine andT ?_); conv => whnf) | (refine iteP_intro (fun hb => ?_) (fun hb => ?_) <;> (conv => whnf)))
        (refine ⟨_, hI3, ?_⟩; conv => whnf)
        repeat' (first | ((first | refine opt_some (getC_rows rfl rfl (by omega)) ?_ | refine opt_some (by dsimp only; exact getC_lent rfl rfl (by omega)) ?_ | refine opt_some rfl ?_ | refine ⟨_, (by simp only [nf, nl, nm, en, ints, setC_setC, Nat.reduceAdd, Nat.reduceMul, h1]; exact rfl), ?_⟩ | refine ⟨_, pickT rfl, ?_⟩ | refine ⟨_, rfl, ?_⟩ | refine iteP_true rfl ?_ | refine iteP_false rfl ?_ | refine iteP_true ‹_› ?_ | refine iteP_false ‹_› ?_ | refine andK ?_ | refine andA ?_ | refine andT ?_); conv => whnf) | (refine iteP_intro (fun hb => ?_) (fun hb => ?_) <;> (conv => whnf)))
        (refine ⟨_, hlk2, ?_⟩; conv => whnf)
        repeat' (first | ((first | refine opt_some (getC_rows rfl rfl (by omega)) ?_ | refine opt_some (by dsimp only; exact getC_lent rfl rfl (by omega)) ?_ | refine opt_some rfl ?_ | refine ⟨_, (by simp only [nf, nl, nm, en, ints, setC_setC, Nat.reduceAdd, Nat.reduceMul]; exact rfl), ?_⟩ | refine ⟨_, pickT rfl, ?_⟩ | refine ⟨_, rfl, ?_⟩ | refine iteP_true rfl ?_ | refine iteP_false rfl ?_ | refine iteP_true ‹_› ?_ | refine iteP_false ‹_› ?_ | refine andK ?_ | refine andA ?_ | refine andT ?_); conv => whnf) | (refine iteP_intro (fun hb => ?_) (fun hb => ?_) <;> (conv => whnf)))
        rfl
  · have hcl := 0
    have hw24 : w.length ≤ 24 := by omega
    have hI1 := imageOfI_ret ms.length ks.length (natI ms) (natI ks) (ff.map natI) (natI w) (by omega) (by omega) hfl2 hfx (by omega)
    rw [imgR_in q1 q2 e1 e2 hlf hwf hr1' hw hw24] at hI1
    by_cases hlen : 24 < (imgN ff w).length
    · rw [if_pos hlen] at hI1
      unfold rowsI at hI1
      repeat (first | ((first | refine opt_some (getC_rows rfl rfl (by omega)) ?_ | refine opt_some (by dsimp only; exact getC_lent rfl rfl (by omega)) ?_ | refine opt_some rfl ?_ | refine ⟨_, (by simp only [nf, nl, nm, en, ints, setC_setC, Nat.reduceAdd, Nat.reduceMul]; exact rfl), ?_⟩ | refine ⟨_, pickT rfl, ?_⟩ | refine ⟨_, rfl, ?_⟩ | refine iteP_true rfl ?_ | refine iteP_false rfl ?_ | refine iteP_true ‹_› ?_ | refine iteP_false ‹_› ?_ | refine andK ?_ | refine andA ?_ | refine andT ?_); conv => whnf))
      (refine ⟨_, hI1, ?_⟩; conv => whnf)
      repeat' (first | ((first | refine opt_some (getC_rows rfl rfl (by omega)) ?_ | refine opt_some (by dsimp only; exact getC_lent rfl rfl (by omega)) ?_ | refine opt_some rfl ?_ | refine ⟨_, (by simp only [nf, nl, nm, en, ints, setC_setC, Nat.reduceAdd, Nat.reduceMul]; exact rfl), ?_⟩ | refine ⟨_, pickT rfl, ?_⟩ | refine ⟨_, rfl, ?_⟩ | refine iteP_true rfl ?_ | refine iteP_false rfl ?_ | refine iteP_true ‹_› ?_ | refine iteP_false ‹_› ?_ | refine andK ?_ | refine andA ?_ | refine andT ?_); conv => whnf) | (refine iteP_intro (fun hb => ?_) (fun hb => ?_) <;> (conv => whnf)))
      rfl
    · rw [if_neg hlen] at hI1
      have hnl : (nform ks (imgN ff w)).length ≤ 24 := by rw [nform_length hB (imgN_wd hwf w)]; omega
      have hnn := natI_length (nform ks (imgN ff w))
      have hI2 := imageOfI_ret ks.length ls.length (natI ks) (natI ls) (gg.map natI) (natI (nform ks (imgN ff w))) (by omega) (by omega) hgl2 hgx (by omega)
      rw [imgR_in q2 q3 e2 e3 hlg hwg hr2' (nform_wd hB (imgN_wd hwf w)) hnl, (hck w).1, (hck w).2] at hI2
      have hI3 := imageOfI_ret ms.length ls.length (natI ms) (natI ls) (hh.map natI) (natI w) (by omega) (by omega) hhl2 hhx (by omega)
      rw [imgR_in q1 q3 e1 e3 hlh hwh hrh hw hw24, ← rowsC_I] at hI3
      have hvl : (if 24 < (imgN hh w).length then (([], 3) : List Nat × Int) else (nform ls (imgN hh w), 0)).1.length ≤ 24 := by
        split
        · simp
        · rw [nform_length hC (imgN_wd hwh w)]; omega
      have hE : ∃ p : List Nat × Int, (if 24 < (imgN hh w).length then (([], 3) : List Nat × Int) else (nform ls (imgN hh w), 0)) = p := ⟨_, rfl⟩
      obtain ⟨⟨v, c⟩, hp⟩ := hE
      rw [hp] at hI2 hI3 hvl
      have hvn := natI_length v
      have hvl : v.length ≤ 24 := hvl
      have hlk2 := likeInts_ret (natI v) (natI v) (by omega)
      rw [decide_eq_true rfl] at hlk2
      have h1 : (c == c) = true := by simp
      unfold rowsI at hI1 hI2
      unfold rowsC at hI3
      repeat (first | ((first | refine opt_some (getC_rows rfl rfl (by omega)) ?_ | refine opt_some (by dsimp only; exact getC_lent rfl rfl (by omega)) ?_ | refine opt_some rfl ?_ | refine ⟨_, (by simp only [nf, nl, nm, en, ints, setC_setC, Nat.reduceAdd, Nat.reduceMul]; exact rfl), ?_⟩ | refine ⟨_, pickT rfl, ?_⟩ | refine ⟨_, rfl, ?_⟩ | refine iteP_true rfl ?_ | refine iteP_false rfl ?_ | refine iteP_true ‹_› ?_ | refine iteP_false ‹_› ?_ | refine andK ?_ | refine andA ?_ | refine andT ?_); conv => whnf))
      (refine ⟨_, hI1, ?_⟩; conv => whnf)
      repeat' (first | ((first | refine opt_some (getC_rows rfl rfl (by omega)) ?_ | refine opt_some (by dsimp only; exact getC_lent rfl rfl (by omega)) ?_ | refine opt_some rfl ?_ | refine ⟨_, (by simp only [nf, nl, nm, en, ints, setC_setC, Nat.reduceAdd, Nat.reduceMul]; exact rfl), ?_⟩ | refine ⟨_, pickT rfl, ?_⟩ | refine ⟨_, rfl, ?_⟩ | refine iteP_true rfl ?_ | refine iteP_false rfl ?_ | refine iteP_true ‹_› ?_ | refine iteP_false ‹_› ?_ | refine andK ?_ | refine andA ?_ | refine andT ?_); conv => whnf) | (refine iteP_intro (fun hb => ?_) (fun hb => ?_) <;> (conv => whnf)))
      (refine ⟨_, hI2, ?_⟩; conv => whnf)
      repeat' (first | ((first | refine opt_some (getC_rows rfl rfl (by omega)) ?_ | refine opt_some (by dsimp only; exact getC_lent rfl rfl (by omega)) ?_ | refine opt_some rfl ?_ | refine ⟨_, (by simp only [nf, nl, nm, en, ints, setC_setC, Nat.reduceAdd, Nat.reduceMul]; exact rfl), ?_⟩ | refine ⟨_, pickT rfl, ?_⟩ | refine ⟨_, rfl, ?_⟩ | refine iteP_true rfl ?_ | refine iteP_false rfl ?_ | refine iteP_true ‹_› ?_ | refine iteP_false ‹_› ?_ | refine andK ?_ | refine andA ?_ | refine andT ?_); conv => whnf) | (refine iteP_intro (fun hb => ?_) (fun hb => ?_) <;> (conv => whnf)))
      (refine ⟨_, hI3, ?_⟩; conv => whnf)
      repeat' (first | ((first | refine opt_some (getC_rows rfl rfl (by omega)) ?_ | refine opt_some (by dsimp only; exact getC_lent rfl rfl (by omega)) ?_ | refine opt_some rfl ?_ | refine ⟨_, (by simp only [nf, nl, nm, en, ints, setC_setC, Nat.reduceAdd, Nat.reduceMul, h1]; exact rfl), ?_⟩ | refine ⟨_, pickT rfl, ?_⟩ | refine ⟨_, rfl, ?_⟩ | refine iteP_true rfl ?_ | refine iteP_false rfl ?_ | refine iteP_true ‹_› ?_ | refine iteP_false ‹_› ?_ | refine andK ?_ | refine andA ?_ | refine andT ?_); conv => whnf) | (refine iteP_intro (fun hb => ?_) (fun hb => ?_) <;> (conv => whnf)))
      (refine ⟨_, hlk2, ?_⟩; conv => whnf)
      repeat' (first | ((first | refine opt_some (getC_rows rfl rfl (by omega)) ?_ | refine opt_some (by dsimp only; exact getC_lent rfl rfl (by omega)) ?_ | refine opt_some rfl ?_ | refine ⟨_, (by simp only [nf, nl, nm, en, ints, setC_setC, Nat.reduceAdd, Nat.reduceMul]; exact rfl), ?_⟩ | refine ⟨_, pickT rfl, ?_⟩ | refine ⟨_, rfl, ?_⟩ | refine iteP_true rfl ?_ | refine iteP_false rfl ?_ | refine iteP_true ‹_› ?_ | refine iteP_false ‹_› ?_ | refine andK ?_ | refine andA ?_ | refine andT ?_); conv => whnf) | (refine iteP_intro (fun hb => ?_) (fun hb => ?_) <;> (conv => whnf)))
      rfl
end Go.Proofs.YtpopepcmfanegaaDoor
