import Derived.Test.YtihdeagknggeiaaDoorFzb
set_option autoImplicit false
set_option linter.unusedSimpArgs false
set_option linter.unusedVariables false
namespace Go.Proofs.YtihdeagknggeiaaDoor
open Go.Den
theorem optG9 {o : Option Cell} {x : Cell} {p : Cell → Prop} {q : Prop} (h : o = some x) (hp : p x) : optP o p q := by
  rw [h]
  exact .s hp
/-- The same letters, told by a list. -/
def cjL (ms r : List Nat) (M : List Nat) (out : List (List Nat)) : List (List Nat) := M.foldl (fun o a => if 1000 < o.length then o else if rotN ms r a ∈ o then o else o ++ [rotN ms r a]) out
theorem cjL_snoc (ms r M : List Nat) (a : Nat) (out : List (List Nat)) : cjL ms r (M ++ [a]) out = if 1000 < (cjL ms r M out).length then cjL ms r M out else if rotN ms r a ∈ cjL ms r M out then cjL ms r M out else cjL ms r M out ++ [rotN ms r a] := by
  unfold cjL
  rw [List.foldl_append]
  rfl
theorem cjI_L (ms r : List Nat) (out : List (List Nat)) : ∀ n, cjI ms r n out = cjL ms r ((List.range n).filter fun a => canF ms a r) out
  | 0 => rfl
  | n + 1 => by
    rw [cjI, cjI_L ms r out n, List.range_succ, List.filter_append]
    cases h : canF ms n r with
    | false =>
      rw [show [n].filter (fun a => canF ms a r) = [] by simp [h], List.append_nil]
      simp
    | true =>
      rw [show [n].filter (fun a => canF ms a r) = [n] by simp [h], cjL_snoc]
      by_cases hm : rotN ms r n ∈ cjL ms r ((List.range n).filter fun a => canF ms a r) out
      · simp [hm]
      · simp [hm]
theorem cjL_sat {ms r : List Nat} {out : List (List Nat)} (h : 1000 < out.length) : ∀ M, cjL ms r M out = out := fun M => by
  induction M with
  | nil => rfl
  | cons a M ih =>
    show cjL ms r M (if 1000 < out.length then out else _) = out
    rw [if_pos h]
    exact ih
/-- Words with the words of letters that lead to them, as they lie in memory: the first one's is nil. -/
def tP : List (List Nat × List Nat) → List Cell
  | [] => []
  | p :: ps => ints (natI p.1) :: nilS :: ps.flatMap fun p => [ints (natI p.1), ints (natI p.2)]
theorem two_len (ps : List (List Nat × List Nat)) : (ps.flatMap fun p => [ints (natI p.1), ints (natI p.2)]).length = ps.length * 2 := by
  induction ps with
  | nil => rfl
  | cons p ps ih =>
    rw [List.flatMap_cons, List.length_append, ih]
    simp
    omega
theorem tP_length (ps : List (List Nat × List Nat)) : (tP ps).length = ps.length * 2 := by
  cases ps with
  | nil => rfl
  | cons p ps =>
    show (ps.flatMap fun p => [ints (natI p.1), ints (natI p.2)]).length + 1 + 1 = _
    rw [two_len]
    simp
    omega
theorem two_get : ∀ (ps : List (List Nat × List Nat)) (i : Nat) (h : i < ps.length), (ps.flatMap fun p => [ints (natI p.1), ints (natI p.2)])[i * 2]? = some (ints (natI ps[i].1)) ∧ (ps.flatMap fun p => [ints (natI p.1), ints (natI p.2)])[i * 2 + 1]? = some (ints (natI ps[i].2))
  | [], i, h => by simp at h
  | p :: ps, 0, _ => ⟨rfl, rfl⟩
  | p :: ps, i + 1, h => by
    obtain ⟨h1, h2⟩ := two_get ps i (by simpa using h)
    rw [List.flatMap_cons, show (i + 1) * 2 = i * 2 + 2 by omega]
    refine ⟨?_, ?_⟩
    · rw [List.getElem?_append_right (by simp)]
      simpa using h1
    · rw [List.getElem?_append_right (by simp)]
      simpa using h2
theorem tP_word {ps : List (List Nat × List Nat)} {i : Nat} (h : i < ps.length) : (tP ps)[i * 2]? = some (ints (natI ps[i].1)) := by
  cases ps with
  | nil => simp at h
  | cons p ps =>
    cases i with
    | zero => rfl
    | succ i =>
      have := (two_get ps i (by simpa using h)).1
      rw [show (i + 1) * 2 = i * 2 + 1 + 1 by omega]
      exact this
theorem tP_by {ps : List (List Nat × List Nat)} {i : Nat} (h : i < ps.length) : (tP ps)[i * 2 + 1]? = some (if i = 0 then nilS else ints (natI ps[i].2)) := by
  cases ps with
  | nil => simp at h
  | cons p ps =>
    cases i with
    | zero => rfl
    | succ i =>
      have := (two_get ps i (by simpa using h)).2
      rw [show (i + 1) * 2 + 1 = i * 2 + 1 + 1 + 1 by omega, if_neg (by omega)]
      exact this
theorem tP_snoc {ps : List (List Nat × List Nat)} (h : 0 < ps.length) (p : List Nat × List Nat) : tP (ps ++ [p]) = tP ps ++ [ints (natI p.1), ints (natI p.2)] := by
  cases ps with
  | nil => simp at h
  | cons q ps =>
    show _ :: _ :: (ps ++ [p]).flatMap _ = _
    rw [List.flatMap_append]
    simp [tP]
/-- The set of the words that were met. -/
def seenK (ws : List (List Nat)) : List Value := ws.map fun u => .string (keyB u)
def seenC (ws : List (List Nat)) : List Cell := ws.map fun _ => .c (.bool true)
def sml (w : List Nat) : Prop := ∀ c ∈ w, c < 256
theorem keyEq_B {u v : List Nat} (hu : sml u) (hv : sml v) : keyEq (.string (keyB u)) (.string (keyB v)) = decide (u = v) := by
  show ((keyB u).data.toList == (keyB v).data.toList) = _
  by_cases h : u = v
  · subst h; simp
  · rw [decide_eq_false h, beq_eq_false_iff_ne]
    exact fun e => h (keyB_inj hu hv e)
theorem findK_seen {w : List Nat} (hw : sml w) : ∀ {ws : List (List Nat)}, (∀ u ∈ ws, sml u) → (w ∈ ws → ∃ i, i < ws.length ∧ findK (.string (keyB w)) (seenK ws) = some i) ∧ (w ∉ ws → findK (.string (keyB w)) (seenK ws) = none)
  | [], _ => ⟨fun h => absurd h (by simp), fun _ => rfl⟩
  | u :: ws, hs => by
    obtain ⟨h1, h2⟩ := findK_seen hw (ws := ws) fun x hx => hs x (List.mem_cons_of_mem _ hx)
    have hk := keyEq_B hw (hs u (by simp))
    show (_ → ∃ i, _ ∧ (if keyEq (.string (keyB w)) (.string (keyB u)) then some 0 else (findK (.string (keyB w)) (seenK ws)).map (· + 1)) = some i) ∧ (_ → (if keyEq (.string (keyB w)) (.string (keyB u)) then some 0 else (findK (.string (keyB w)) (seenK ws)).map (· + 1)) = none)
    rw [hk]
    by_cases e : w = u
    · rw [if_pos (decide_eq_true e)]
      exact ⟨fun _ => ⟨0, by simp, rfl⟩, fun h => absurd (by simp [e]) h⟩
    · rw [if_neg (by simpa using e)]
      refine ⟨fun h => ?_, fun h => ?_⟩
      · rcases List.mem_cons.1 h with h | h
        · exact absurd h e
        · obtain ⟨i, hi, hf⟩ := h1 h
          exact ⟨i + 1, by simpa using hi, by rw [hf]; rfl⟩
      · rw [h2 fun hm => h (List.mem_cons_of_mem _ hm)]
        rfl
theorem seen_yes {w : List Nat} (hw : sml w) {ws : List (List Nat)} (hs : ∀ u ∈ ws, sml u) (h : w ∈ ws) : getM (.string (keyB w)) (seenK ws) (seenC ws) = some (.c (.bool true)) := by
  obtain ⟨i, hi, hf⟩ := (findK_seen hw hs).1 h
  unfold getM
  rw [hf]
  show (seenC ws)[i]? = _
  unfold seenC
  rw [List.getElem?_map, List.getElem?_eq_getElem hi]
  rfl
theorem seen_no {w : List Nat} (hw : sml w) {ws : List (List Nat)} (hs : ∀ u ∈ ws, sml u) (h : w ∉ ws) : getM (.string (keyB w)) (seenK ws) (seenC ws) = none ∧ putK (.string (keyB w)) (seenK ws) = seenK (ws ++ [w]) ∧ putM (.string (keyB w)) (seenK ws) (.c (.bool true)) (seenC ws) = seenC (ws ++ [w]) := by
  have hf := (findK_seen hw hs).2 h
  unfold getM putK putM
  rw [hf]
  exact ⟨rfl, by simp [seenK], by simp [seenC]⟩
theorem sml_of {ms w : List Nat} (hl : ms.length ≤ 8) (hw : Wd ms w) : sml w := fun c hc => by have := hw c hc; omega
theorem cjL_app (ms r M N : List Nat) (out : List (List Nat)) : cjL ms r (M ++ N) out = cjL ms r N (cjL ms r M out) := by
  unfold cjL
  rw [List.foldl_append]
theorem by_snoc {qs : List (List Nat × List Nat)} {p : List Nat × List Nat} (h : ∀ j (h : j < qs.length), qs[j].2.length ≤ j) (hp : p.2.length ≤ qs.length) : ∀ j (h : j < (qs ++ [p]).length), (qs ++ [p])[j].2.length ≤ j := fun j hj => by
  by_cases e : j < qs.length
  · rw [List.getElem_append_left e]
    exact h j e
  · have : j = qs.length := by rw [List.length_append, List.length_singleton] at hj; omega
    subst this
    rw [List.getElem_append_right (Nat.le_refl _)]
    simpa using hp
theorem by_all {qs : List (List Nat × List Nat)} (h : ∀ j (h : j < qs.length), qs[j].2.length ≤ j) (hl : qs.length ≤ 1001) : ∀ p ∈ qs, p.2.length ≤ 1001 := fun p hp => by
  obtain ⟨j, hj, rfl⟩ := List.getElem_of_mem hp
  have := h j hj
  omega
/-- Conjugates with the words that lead to them. -/
def pcL (ms r b : List Nat) (M : List Nat) (out : List (List Nat × List Nat)) : List (List Nat × List Nat) := M.foldl (fun o a => if 1000 < o.length then o else if rotN ms r a ∈ o.map (·.1) then o else o ++ [(rotN ms r a, b ++ [a])]) out
def pcF (ms : List Nat) : Nat → Nat → List (List Nat × List Nat) → List (List Nat × List Nat)
  | 0, _, out => out
  | f + 1, i, out => if i < out.length ∧ ¬ 1000 < out.length then pcF ms f (i + 1) (pcL ms (out.getD i ([], [])).1 (out.getD i ([], [])).2 (fsts ms (out.getD i ([], [])).1) out) else out
def pcW (ms w : List Nat) : List (List Nat × List Nat) := pcF ms 1001 0 [(nform ms w, [])]
theorem pcL_snoc (ms r b M : List Nat) (a : Nat) (out : List (List Nat × List Nat)) : pcL ms r b (M ++ [a]) out = if 1000 < (pcL ms r b M out).length then pcL ms r b M out else if rotN ms r a ∈ (pcL ms r b M out).map (·.1) then pcL ms r b M out else pcL ms r b M out ++ [(rotN ms r a, b ++ [a])] := by
  unfold pcL
  rw [List.foldl_append]
  rfl
theorem pcL_app (ms r b M N : List Nat) (out : List (List Nat × List Nat)) : pcL ms r b (M ++ N) out = pcL ms r b N (pcL ms r b M out) := by
  unfold pcL
  rw [List.foldl_append]
theorem pcL_sat {ms r b : List Nat} {out : List (List Nat × List Nat)} (h : 1000 < out.length) : ∀ M, pcL ms r b M out = out := fun M => by
  induction M with
  | nil => rfl
  | cons a M ih =>
    show pcL ms r b M (if 1000 < out.length then out else _) = out
    rw [if_pos h]
    exact ih
theorem pcF_sat {ms : List Nat} {out : List (List Nat × List Nat)} (h : 1000 < out.length) : ∀ f i, pcF ms f i out = out
  | 0, _ => rfl
  | f + 1, i => by rw [pcF, if_neg (fun hh => hh.2 h)]
theorem pcL_fst (ms r b : List Nat) : ∀ (M : List Nat) (out : List (List Nat × List Nat)), (pcL ms r b M out).map (·.1) = cjL ms r M (out.map (·.1))
  | [], out => rfl
  | a :: M, out => by
    show (pcL ms r b M (if 1000 < out.length then out else if rotN ms r a ∈ out.map (·.1) then out else out ++ [(rotN ms r a, b ++ [a])])).map (·.1) = cjL ms r M (if 1000 < (out.map (·.1)).length then out.map (·.1) else if rotN ms r a ∈ out.map (·.1) then out.map (·.1) else out.map (·.1) ++ [rotN ms r a])
    rw [pcL_fst ms r b M, List.length_map]
    congr 1
    split
    · rfl
    · split
      · rfl
      · rw [List.map_append]
        rfl
theorem pcF_fst (ms : List Nat) : ∀ (f i : Nat) (out : List (List Nat × List Nat)), (pcF ms f i out).map (·.1) = cjF ms f i (out.map (·.1))
  | 0, _, _ => rfl
  | f + 1, i, out => by
    rw [pcF, cjF, List.length_map]
    split
    · rename_i h
      rw [pcF_fst ms f, pcL_fst, cjI_L]
      have : (out.map (·.1)).getD i [] = (out.getD i ([], [])).1 := by
        rw [List.getD_eq_getElem?_getD, List.getElem?_map, List.getD_eq_getElem?_getD, List.getElem?_eq_getElem h.1]
        rfl
      rw [this]
      rfl
    · rfl
theorem pcW_fst (ms w : List Nat) : (pcW ms w).map (·.1) = cjW ms w := pcF_fst ms 1001 0 _
set_option maxHeartbeats 4000000 in
set_option maxRecDepth 100000 in
theorem conjugates_ex (ms w : List Nat) (hA : Alpha ms) (hl : ms.length ≤ 8) (hw : Wd ms w) (hx : w.length ≤ 24) : ∃ r, (∃ ps : List (List Nat × List Nat), r = ⟨.one (.sl false 2 ps.length (tP ps)), []⟩ ∧ ps = pcW ms w ∧ CjG ms w.length (ps.map (·.1)) ∧ ∀ p ∈ ps, p.2.length ≤ 1001) ∧ Ret Tryd.prog G0 121 [⟨.ro, .one (ints (natI ms))⟩, ⟨.ro, .one (ints (natI w))⟩] r := by
  have hN := normal_ret ms w hA (by omega) hw (by omega)
  have hml := natI_length ms
  have hK := wordKey_ret (nform ms w) (fun c hc => by have := nform_wd hA hw c hc; omega) (by rw [nform_length hA hw]; omega)
  (refine rete_of_den (E := en 79 [] (fun | 4 => [(5, 0), (6, 0), (7, 0), (0, 1)] | 7 => [(5, 0), (6, 0), (7, 0), (37, 0), (38, 0), (39, 0), (0, 1)] | _ => []) (fun _ => [])) tt_ok mixed Tryd.func121 rfl rfl rfl rfl ?_; refine ⟨by simp, ?_⟩)
  repeat' (first | ((first | refine opt_some (getC_rows rfl rfl (by omega)) ?_ | refine opt_some (by dsimp only; exact getC_lent rfl rfl (by omega)) ?_ | refine opt_some rfl ?_ | refine ⟨_, (by simp only [nf, nl, nm, en, ints, setC_setC, Nat.reduceAdd, Nat.reduceMul]; exact rfl), ?_⟩ | refine ⟨_, pickT rfl, ?_⟩ | refine ⟨_, rfl, ?_⟩ | refine iteP_true rfl ?_ | refine iteP_false rfl ?_ | refine iteP_true ‹_› ?_ | refine iteP_false ‹_› ?_ | refine andK ?_ | refine andA ?_ | refine andT ?_); conv => whnf) | (refine iteP_intro (fun hb => ?_) (fun hb => ?_) <;> (conv => whnf)))
  (refine ⟨_, hN, ?_⟩; conv => whnf)
  repeat' (first | ((first | refine opt_some (getC_rows rfl rfl (by omega)) ?_ | refine opt_some (by dsimp only; exact getC_lent rfl rfl (by omega)) ?_ | refine opt_some rfl ?_ | refine ⟨_, (by simp only [nf, nl, nm, en, ints, setC_setC, Nat.reduceAdd, Nat.reduceMul]; exact rfl), ?_⟩ | refine ⟨_, pickT rfl, ?_⟩ | refine ⟨_, rfl, ?_⟩ | refine iteP_true rfl ?_ | refine iteP_false rfl ?_ | refine iteP_true ‹_› ?_ | refine iteP_false ‹_› ?_ | refine andK ?_ | refine andA ?_ | refine andT ?_); conv => whnf) | (refine iteP_intro (fun hb => ?_) (fun hb => ?_) <;> (conv => whnf)))
  (refine ⟨_, hK, ?_⟩; conv => whnf)
  repeat' (first | ((first | refine opt_some (getC_rows rfl rfl (by omega)) ?_ | refine opt_some (by dsimp only; exact getC_lent rfl rfl (by omega)) ?_ | refine opt_some rfl ?_ | refine ⟨_, (by simp only [nf, nl, nm, en, ints, setC_setC, Nat.reduceAdd, Nat.reduceMul]; exact rfl), ?_⟩ | refine ⟨_, pickT rfl, ?_⟩ | refine ⟨_, rfl, ?_⟩ | refine iteP_true rfl ?_ | refine iteP_false rfl ?_ | refine iteP_true ‹_› ?_ | refine iteP_false ‹_› ?_ | refine andK ?_ | refine andA ?_ | refine andT ?_); conv => whnf) | (refine iteP_intro (fun hb => ?_) (fun hb => ?_) <;> (conv => whnf)))
  have hfl0 : ∀ r : List Nat, (fsts ms r).length ≤ 8 := fun r => by
    have := List.length_filter_le (fun a => canF ms a r) (List.range ms.length)
    rw [List.length_range] at this
    unfold fsts
    omega
  refine ⟨fun k vs => ∃ (i : Nat) (ps : List (List Nat × List Nat)), i ≤ ps.length ∧ ps.length ≤ 1000 ∧ 0 < ps.length ∧ CjG ms w.length (ps.map (·.1)) ∧ pcF ms (1001 - i) i ps = pcW ms w ∧ (∀ j (h : j < ps.length), ps[j].2.length ≤ j) ∧ vs = [.one (.sl false 2 ps.length (tP ps)), .one (.mp false (seenK (ps.map (·.1))) (seenC (ps.map (·.1)))), .one (i64 i), .one (.shd (ints (natI ms)))] ∧ k = 1001 - i, rfl, ⟨_, 0, [(nform ms w, [])], by omega, by simp, by simp, ⟨fun r hr => ?_⟩, rfl, fun j h => ?_, rfl, rfl⟩, ?_⟩
  · rw [List.mem_singleton.1 hr]
    exact ⟨nform_wd hA hw, nform_length hA hw⟩
  · have h0 : j = 0 := by simpa using h
    subst h0
    simp
  rintro k vs ⟨i, ps, hi, hpl, hp0, hg, hF, hby, rfl, rfl⟩
  repeat (first | ((first | refine opt_some (getC_rows rfl rfl (by omega)) ?_ | refine opt_some (by dsimp only; exact getC_lent rfl rfl (by omega)) ?_ | refine opt_some rfl ?_ | refine ⟨_, (by simp only [nf, nl, nm, en, ints, setC_setC, Nat.reduceAdd, Nat.reduceMul]; exact rfl), ?_⟩ | refine ⟨_, pickT rfl, ?_⟩ | refine ⟨_, rfl, ?_⟩ | refine iteP_true rfl ?_ | refine iteP_false rfl ?_ | refine iteP_true ‹_› ?_ | refine iteP_false ‹_› ?_ | refine andK ?_ | refine andA ?_ | refine andT ?_); conv => whnf))
  refine iteP_intro (fun hb => ?_) (fun hb => ?_) <;> (conv => whnf)
  · have hi' : i < ps.length := by have := leT hb; omega
    have hR0 : ∃ r b, ps[i] = (r, b) := ⟨_, _, rfl⟩
    obtain ⟨r, b, hrb⟩ := hR0
    have hrm : r ∈ ps.map (·.1) := List.mem_map.2 ⟨(r, b), by rw [← hrb]; exact List.getElem_mem hi', rfl⟩
    have hgd : ps.getD i ([], []) = (r, b) := by rw [List.getD_eq_getElem?_getD, List.getElem?_eq_getElem hi', hrb]; rfl
    rw [show 1001 - i = (1001 - (i + 1)) + 1 by omega, pcF, if_pos ⟨hi', by omega⟩, hgd] at hF
    have hok := hg.ok r hrm
    obtain ⟨hrw, hrl⟩ := hok
    have hbl : b.length ≤ i := by have := hby i hi'; rw [hrb] at this; exact this
    have hrn := natI_length r
    have hgw : (tP ps)[i * 2]? = some (ints (natI r)) := by rw [tP_word hi', hrb]
    have hFi := firsts_ret ms r (by omega) hA.lt hrw (by omega)
    have hmb : Ret Tryd.prog G0 105 [⟨.ro, .one (i64 (fstM ms r : Nat))⟩] ⟨.one (ints (natI (fsts ms r))), []⟩ := by
      have := members_ret (fstM ms r) (maskN_lt63 _ (by omega))
      rw [mems_fst r (by omega)] at this
      exact this
    have hfl := natI_length (fsts ms r)
    have hf8 := hfl0 r
    have hpw : pickN 1 (List.drop (i * 2) (tP ps)) = some [ints (natI r)] := pick_one hgw
    repeat (first | ((first | refine opt_some (getC_rows rfl rfl (by omega)) ?_ | refine opt_some (by dsimp only; exact getC_lent rfl rfl (by omega)) ?_ | refine opt_some rfl ?_ | refine ⟨_, (by simp only [nf, nl, nm, en, ints, setC_setC, Nat.reduceAdd, Nat.reduceMul]; exact rfl), ?_⟩ | refine ⟨_, pickT rfl, ?_⟩ | refine ⟨_, rfl, ?_⟩ | refine iteP_true rfl ?_ | refine iteP_false rfl ?_ | refine iteP_true ‹_› ?_ | refine iteP_false ‹_› ?_ | refine andK ?_ | refine andA ?_ | refine andT ?_); conv => whnf))
    have hgc : getC [.sl false 2 ps.length (tP ps)] 0 (some (i * 2)) = some (ints (natI r)) := hgw
    refine ⟨_, hpw, ?_⟩
    conv => whnf
    repeat (first | ((first | refine opt_some (getC_rows rfl rfl (by omega)) ?_ | refine opt_some (by dsimp only; exact getC_lent rfl rfl (by omega)) ?_ | refine opt_some rfl ?_ | refine ⟨_, (by simp only [nf, nl, nm, en, ints, setC_setC, Nat.reduceAdd, Nat.reduceMul]; exact rfl), ?_⟩ | refine ⟨_, pickT rfl, ?_⟩ | refine ⟨_, rfl, ?_⟩ | refine iteP_true rfl ?_ | refine iteP_false rfl ?_ | refine iteP_true ‹_› ?_ | refine iteP_false ‹_› ?_ | refine andK ?_ | refine andA ?_ | refine andT ?_); conv => whnf))
    refine optG9 hgc ?_
    conv => whnf
    repeat (first | ((first | refine opt_some (getC_rows rfl rfl (by omega)) ?_ | refine opt_some (by dsimp only; exact getC_lent rfl rfl (by omega)) ?_ | refine opt_some rfl ?_ | refine ⟨_, (by simp only [nf, nl, nm, en, ints, setC_setC, Nat.reduceAdd, Nat.reduceMul]; exact rfl), ?_⟩ | refine ⟨_, pickT rfl, ?_⟩ | refine ⟨_, rfl, ?_⟩ | refine iteP_true rfl ?_ | refine iteP_false rfl ?_ | refine iteP_true ‹_› ?_ | refine iteP_false ‹_› ?_ | refine andK ?_ | refine andA ?_ | refine andT ?_); conv => whnf))
    (refine ⟨_, hFi, ?_⟩; conv => whnf)
    repeat (first | ((first | refine opt_some (getC_rows rfl rfl (by omega)) ?_ | refine opt_some (by dsimp only; exact getC_lent rfl rfl (by omega)) ?_ | refine opt_some rfl ?_ | refine ⟨_, (by simp only [nf, nl, nm, en, ints, setC_setC, Nat.reduceAdd, Nat.reduceMul]; exact rfl), ?_⟩ | refine ⟨_, pickT rfl, ?_⟩ | refine ⟨_, rfl, ?_⟩ | refine iteP_true rfl ?_ | refine iteP_false rfl ?_ | refine iteP_true ‹_› ?_ | refine iteP_false ‹_› ?_ | refine andK ?_ | refine andA ?_ | refine andT ?_); conv => whnf))
    (refine ⟨_, hmb, ?_⟩; conv => whnf)
    repeat (first | ((first | refine opt_some (getC_rows rfl rfl (by omega)) ?_ | refine opt_some (by dsimp only; exact getC_lent rfl rfl (by omega)) ?_ | refine opt_some rfl ?_ | refine ⟨_, (by simp only [nf, nl, nm, en, ints, setC_setC, Nat.reduceAdd, Nat.reduceMul]; exact rfl), ?_⟩ | refine ⟨_, pickT rfl, ?_⟩ | refine ⟨_, rfl, ?_⟩ | refine iteP_true rfl ?_ | refine iteP_false rfl ?_ | refine iteP_true ‹_› ?_ | refine iteP_false ‹_› ?_ | refine andK ?_ | refine andA ?_ | refine andT ?_); conv => whnf))
    refine ⟨fun k vs => ∃ (j : Nat) (qs : List (List Nat × List Nat)), j ≤ (fsts ms r).length ∧ pcL ms r b ((fsts ms r).take j) ps = qs ∧ qs.length ≤ 1000 ∧ CjG ms w.length (qs.map (·.1)) ∧ (∀ j (h : j < qs.length), qs[j].2.length ≤ j) ∧ (∃ t, qs = ps ++ t) ∧ vs = [.one (.sl false 2 qs.length (tP qs)), .one (.mp false (seenK (qs.map (·.1))) (seenC (qs.map (·.1)))), .one (i64 i), .one (ints (natI (fsts ms r))), .one (i64 (fsts ms r).length), .one (i64 j), .one (.shd (ints (natI ms)))] ∧ k = (fsts ms r).length - j, rfl, ⟨_, 0, ps, by omega, rfl, hpl, hg, hby, ⟨[], by simp⟩, ?_, rfl⟩, ?_⟩
    · rw [← hfl]
      rfl
    rintro k vs ⟨j, qs, hj, hcj, hql, hgq, hbq, ⟨t, hqt⟩, rfl, rfl⟩
    have hq0 : 0 < qs.length := by rw [hqt, List.length_append]; omega
    have hiq : i < qs.length := by rw [hqt, List.length_append]; omega
    have hqi : qs[i] = (r, b) := by
      rw [← hrb]
      simp only [hqt]
      rw [List.getElem_append_left hi']
    repeat (first | ((first | refine opt_some (getC_rows rfl rfl (by omega)) ?_ | refine opt_some (by dsimp only; exact getC_lent rfl rfl (by omega)) ?_ | refine opt_some rfl ?_ | refine ⟨_, (by simp only [nf, nl, nm, en, ints, setC_setC, Nat.reduceAdd, Nat.reduceMul]; exact rfl), ?_⟩ | refine ⟨_, pickT rfl, ?_⟩ | refine ⟨_, rfl, ?_⟩ | refine iteP_true rfl ?_ | refine iteP_false rfl ?_ | refine iteP_true ‹_› ?_ | refine iteP_false ‹_› ?_ | refine andK ?_ | refine andA ?_ | refine andT ?_); conv => whnf))
    refine iteP_intro (fun hb => ?_) (fun hb => ?_) <;> (conv => whnf)
    · have hj' : j < (fsts ms r).length := by have := leT hb; omega
      have hgj : (natI (fsts ms r))[j]'(by rw [hfl]; exact hj') = (((fsts ms r)[j] : Nat) : Int) := natI_get _
      have hfm := fsts_mem.1 (List.getElem_mem hj')
      have hA0 : ∃ a, (fsts ms r)[j] = a := ⟨_, rfl⟩
      obtain ⟨a, haj⟩ := hA0
      rw [haj] at hgj hfm
      obtain ⟨ha1, ha2⟩ := hfm
      have hsn := pcL_snoc ms r b ((fsts ms r).take j) a ps
      rw [← haj, ← List.take_succ_eq_append_getElem hj', haj, hcj, if_neg (by omega)] at hsn
      have hqw : pickN 1 (List.drop (i * 2) (tP qs)) = some [ints (natI r)] := pick_one (by rw [tP_word hiq, hqi])
      have hRo := rotated_ret ms r a hA (by omega) hrw (by omega) ha1 (canF_mem ha2)
      have hvw := rotN_wd hA hrw ha1
      have hvl := rotN_len hA hrw ha1 (canF_mem ha2)
      have hV0 : ∃ v, rotN ms r a = v := ⟨_, rfl⟩
      obtain ⟨v, hv⟩ := hV0
      have hgr := hgq.rot hA (show r ∈ qs.map (·.1) from List.mem_map.2 ⟨(r, b), by rw [← hqi]; exact List.getElem_mem hiq, rfl⟩) ha1 ha2
      rw [hv] at hsn hRo hvw hvl hgr
      have hKv := wordKey_ret v (fun c hc => by have := hvw c hc; omega) (by omega)
      have hsm : ∀ u ∈ qs.map (·.1), sml u := fun u hu => sml_of hl (hgq.ok u hu).1
      have hvs := sml_of hl hvw
      repeat (first | ((first | refine opt_some (getC_rows rfl rfl (by omega)) ?_ | refine opt_some (by dsimp only; exact getC_lent rfl rfl (by omega)) ?_ | refine opt_some rfl ?_ | refine ⟨_, (by simp only [nf, nl, nm, en, ints, setC_setC, Nat.reduceAdd, Nat.reduceMul, hgj]; exact rfl), ?_⟩ | refine ⟨_, pickT rfl, ?_⟩ | refine ⟨_, rfl, ?_⟩ | refine iteP_true rfl ?_ | refine iteP_false rfl ?_ | refine iteP_true ‹_› ?_ | refine iteP_false ‹_› ?_ | refine andK ?_ | refine andA ?_ | refine andT ?_); conv => whnf))
      have hqc : getC [.sl false 2 qs.length (tP qs)] 0 (some (i * 2)) = some (ints (natI r)) := by
        show (tP qs)[i * 2]? = _
        rw [tP_word hiq, hqi]
      refine ⟨_, hqw, ?_⟩
      conv => whnf
      repeat (first | ((first | refine opt_some (getC_rows rfl rfl (by omega)) ?_ | refine opt_some (by dsimp only; exact getC_lent rfl rfl (by omega)) ?_ | refine opt_some rfl ?_ | refine ⟨_, (by simp only [nf, nl, nm, en, ints, setC_setC, Nat.reduceAdd, Nat.reduceMul, hgj]; exact rfl), ?_⟩ | refine ⟨_, pickT rfl, ?_⟩ | refine ⟨_, rfl, ?_⟩ | refine iteP_true rfl ?_ | refine iteP_false rfl ?_ | refine iteP_true ‹_› ?_ | refine iteP_false ‹_› ?_ | refine andK ?_ | refine andA ?_ | refine andT ?_); conv => whnf))
      refine optG9 hqc ?_
      conv => whnf
      repeat (first | ((first | refine opt_some (getC_rows rfl rfl (by omega)) ?_ | refine opt_some (by dsimp only; exact getC_lent rfl rfl (by omega)) ?_ | refine opt_some rfl ?_ | refine ⟨_, (by simp only [nf, nl, nm, en, ints, setC_setC, Nat.reduceAdd, Nat.reduceMul, hgj]; exact rfl), ?_⟩ | refine ⟨_, pickT rfl, ?_⟩ | refine ⟨_, rfl, ?_⟩ | refine iteP_true rfl ?_ | refine iteP_false rfl ?_ | refine iteP_true ‹_› ?_ | refine iteP_false ‹_› ?_ | refine andK ?_ | refine andA ?_ | refine andT ?_); conv => whnf))
      (refine ⟨_, hRo, ?_⟩; conv => whnf)
      repeat (first | ((first | refine opt_some (getC_rows rfl rfl (by omega)) ?_ | refine opt_some (by dsimp only; exact getC_lent rfl rfl (by omega)) ?_ | refine opt_some rfl ?_ | refine ⟨_, (by simp only [nf, nl, nm, en, ints, setC_setC, Nat.reduceAdd, Nat.reduceMul]; exact rfl), ?_⟩ | refine ⟨_, pickT rfl, ?_⟩ | refine ⟨_, rfl, ?_⟩ | refine iteP_true rfl ?_ | refine iteP_false rfl ?_ | refine iteP_true ‹_› ?_ | refine iteP_false ‹_› ?_ | refine andK ?_ | refine andA ?_ | refine andT ?_); conv => whnf))
      (refine ⟨_, hKv, ?_⟩; conv => whnf)
      repeat (first | ((first | refine opt_some (getC_rows rfl rfl (by omega)) ?_ | refine opt_some (by dsimp only; exact getC_lent rfl rfl (by omega)) ?_ | refine opt_some rfl ?_ | refine ⟨_, (by simp only [nf, nl, nm, en, ints, setC_setC, Nat.reduceAdd, Nat.reduceMul]; exact rfl), ?_⟩ | refine ⟨_, pickT rfl, ?_⟩ | refine ⟨_, rfl, ?_⟩ | refine iteP_true rfl ?_ | refine iteP_false rfl ?_ | refine iteP_true ‹_› ?_ | refine iteP_false ‹_› ?_ | refine andK ?_ | refine andA ?_ | refine andT ?_); conv => whnf))
      refine ⟨fun x hx => by obtain ⟨e, -, rfl⟩ := List.mem_map.1 hx; rfl, ?_⟩
      conv => whnf
      by_cases hm : v ∈ qs.map (·.1)
      · rw [if_pos hm] at hsn
        refine ⟨_, seen_yes hvs hsm hm, ?_⟩
        refine optP.s ?_
        conv => whnf
        repeat (first | ((first | refine opt_some (getC_rows rfl rfl (by omega)) ?_ | refine opt_some (by dsimp only; exact getC_lent rfl rfl (by omega)) ?_ | refine opt_some rfl ?_ | refine ⟨_, (by simp only [nf, nl, nm, en, ints, setC_setC, Nat.reduceAdd, Nat.reduceMul]; exact rfl), ?_⟩ | refine ⟨_, pickT rfl, ?_⟩ | refine ⟨_, rfl, ?_⟩ | refine iteP_true rfl ?_ | refine iteP_false rfl ?_ | refine iteP_true ‹_› ?_ | refine iteP_false ‹_› ?_ | refine andK ?_ | refine andA ?_ | refine andT ?_); conv => whnf))
        refine iteP_intro (fun hb => ?_) (fun hb => ?_) <;> (conv => whnf)
        · exact absurd (leT hb) (by omega)
        · repeat (first | ((first | refine opt_some (getC_rows rfl rfl (by omega)) ?_ | refine opt_some (by dsimp only; exact getC_lent rfl rfl (by omega)) ?_ | refine opt_some rfl ?_ | refine ⟨_, (by simp only [nf, nl, nm, en, ints, setC_setC, Nat.reduceAdd, Nat.reduceMul]; exact rfl), ?_⟩ | refine ⟨_, pickT rfl, ?_⟩ | refine ⟨_, rfl, ?_⟩ | refine iteP_true rfl ?_ | refine iteP_false rfl ?_ | refine iteP_true ‹_› ?_ | refine iteP_false ‹_› ?_ | refine andK ?_ | refine andA ?_ | refine andT ?_); conv => whnf))
          refine ⟨_, ?_, j + 1, qs, hj', hsn, hql, hgq, hbq, ⟨t, hqt⟩, ?_, rfl⟩
          · omega
          · rw [wrap_succ (by omega)]
            rfl
      · rw [if_neg hm] at hsn
        have hno := seen_no hvs hsm hm
        obtain ⟨n1, n2, n3⟩ := hno
        have hmp : (qs ++ [(v, b ++ [a])]).map (·.1) = qs.map (·.1) ++ [v] := by rw [List.map_append]; rfl
        have hbq2 := by_snoc (p := (v, b ++ [a])) hbq (by rw [List.length_append, List.length_singleton]; omega)
        have hbn := natI_length b
        have htp : Cell.sl false 2 (qs.length + 1) (tP qs ++ [ints (natI v), .sl false 1 ((natI b).length + 1) ((natI b).map i64 ++ [i64 a])]) = .sl false 2 (qs ++ [(v, b ++ [a])]).length (tP (qs ++ [(v, b ++ [a])])) := by
          rw [tP_snoc hq0, List.length_append, List.length_singleton, ints_natI_snoc]
        refine ⟨_, n1, ?_⟩
        refine optP.n ?_
        conv => whnf
        by_cases hi0 : i = 0
        · have hb0 : b = [] := List.length_eq_zero_iff.1 (by omega)
          have hqb : pickN 1 (List.drop (i * 2 + 1) (tP qs)) = some [nilS] := pick_one (by rw [tP_by hiq, if_pos hi0])
          have hCl : Ret Tryd.prog G0 87 [⟨.ro, .one nilS⟩] ⟨.one (ints (natI b)), []⟩ := by
            rw [hb0]
            exact (clone_ret [] (by simp)).args (.ro (fun w Z v h => by cases h; exact .nil _ _) .nil)
          repeat (first | ((first | refine opt_some (getC_rows rfl rfl (by omega)) ?_ | refine opt_some (by dsimp only; exact getC_lent rfl rfl (by omega)) ?_ | refine opt_some rfl ?_ | refine ⟨_, (by simp only [nf, nl, nm, en, ints, setC_setC, Nat.reduceAdd, Nat.reduceMul]; exact rfl), ?_⟩ | refine ⟨_, pickT rfl, ?_⟩ | refine ⟨_, rfl, ?_⟩ | refine iteP_true rfl ?_ | refine iteP_false rfl ?_ | refine iteP_true ‹_› ?_ | refine iteP_false ‹_› ?_ | refine andK ?_ | refine andA ?_ | refine andT ?_); conv => whnf))
          refine ⟨fun x hx => by obtain ⟨e, -, rfl⟩ := List.mem_map.1 hx; rfl, ?_⟩
          conv => whnf
          repeat (first | ((first | refine opt_some (getC_rows rfl rfl (by omega)) ?_ | refine opt_some (by dsimp only; exact getC_lent rfl rfl (by omega)) ?_ | refine opt_some rfl ?_ | refine ⟨_, (by simp only [nf, nl, nm, en, ints, setC_setC, Nat.reduceAdd, Nat.reduceMul, n2, n3]; exact rfl), ?_⟩ | refine ⟨_, pickT rfl, ?_⟩ | refine ⟨_, rfl, ?_⟩ | refine iteP_true rfl ?_ | refine iteP_false rfl ?_ | refine iteP_true ‹_› ?_ | refine iteP_false ‹_› ?_ | refine andK ?_ | refine andA ?_ | refine andT ?_); conv => whnf))
          refine ⟨_, hqb, ?_⟩
          conv => whnf
          repeat (first | ((first | refine opt_some (getC_rows rfl rfl (by omega)) ?_ | refine opt_some (by dsimp only; exact getC_lent rfl rfl (by omega)) ?_ | refine opt_some rfl ?_ | refine ⟨_, (by simp only [nf, nl, nm, en, ints, setC_setC, Nat.reduceAdd, Nat.reduceMul]; exact rfl), ?_⟩ | refine ⟨_, pickT rfl, ?_⟩ | refine ⟨_, rfl, ?_⟩ | refine iteP_true rfl ?_ | refine iteP_false rfl ?_ | refine iteP_true ‹_› ?_ | refine iteP_false ‹_› ?_ | refine andK ?_ | refine andA ?_ | refine andT ?_); conv => whnf))
          (refine ⟨_, hCl, ?_⟩; conv => whnf)
          repeat (first | ((first | refine opt_some (getC_rows rfl rfl (by omega)) ?_ | refine opt_some (by dsimp only; exact getC_lent rfl rfl (by omega)) ?_ | refine opt_some rfl ?_ | refine ⟨_, (by simp only [nf, nl, nm, en, ints, setC_setC, Nat.reduceAdd, Nat.reduceMul]; exact rfl), ?_⟩ | refine ⟨_, pickT rfl, ?_⟩ | refine ⟨_, rfl, ?_⟩ | refine iteP_true rfl ?_ | refine iteP_false rfl ?_ | refine iteP_true ‹_› ?_ | refine iteP_false ‹_› ?_ | refine andK ?_ | refine andA ?_ | refine andT ?_); conv => whnf))
          refine iteP_intro (fun hb => ?_) (fun hb => ?_) <;> (conv => whnf)
          · have hbig : 1000 < (qs ++ [(v, b ++ [a])]).length := by rw [List.length_append, List.length_singleton]; have := leT hb; omega
            have hW : qs ++ [(v, b ++ [a])] = pcW ms w := by
              rw [← hF]
              dsimp only
              rw [← List.take_append_drop (j + 1) (fsts ms r), pcL_app, hsn, pcL_sat hbig, pcF_sat hbig]
            repeat' (first | ((first | refine opt_some (getC_rows rfl rfl (by omega)) ?_ | refine opt_some (by dsimp only; exact getC_lent rfl rfl (by omega)) ?_ | refine opt_some rfl ?_ | refine ⟨_, (by simp only [nf, nl, nm, en, ints, setC_setC, Nat.reduceAdd, Nat.reduceMul]; exact rfl), ?_⟩ | refine ⟨_, pickT rfl, ?_⟩ | refine ⟨_, rfl, ?_⟩ | refine iteP_true rfl ?_ | refine iteP_false rfl ?_ | refine iteP_true ‹_› ?_ | refine iteP_false ‹_› ?_ | refine andK ?_ | refine andA ?_ | refine andT ?_); conv => whnf) | (refine iteP_intro (fun hb => ?_) (fun hb => ?_) <;> (conv => whnf)))
            refine ⟨qs ++ [(v, b ++ [a])], ?_, hW, by rw [hmp]; exact hgr, by_all hbq2 (by rw [List.length_append, List.length_singleton]; omega)⟩
            rw [← htp]
            rfl
          · have hsm2 : (qs ++ [(v, b ++ [a])]).length ≤ 1000 := by rw [List.length_append, List.length_singleton]; have := leF hb; omega
            repeat (first | ((first | refine opt_some (getC_rows rfl rfl (by omega)) ?_ | refine opt_some (by dsimp only; exact getC_lent rfl rfl (by omega)) ?_ | refine opt_some rfl ?_ | refine ⟨_, (by simp only [nf, nl, nm, en, ints, setC_setC, Nat.reduceAdd, Nat.reduceMul]; exact rfl), ?_⟩ | refine ⟨_, pickT rfl, ?_⟩ | refine ⟨_, rfl, ?_⟩ | refine iteP_true rfl ?_ | refine iteP_false rfl ?_ | refine iteP_true ‹_› ?_ | refine iteP_false ‹_› ?_ | refine andK ?_ | refine andA ?_ | refine andT ?_); conv => whnf))
            refine ⟨_, ?_, j + 1, qs ++ [(v, b ++ [a])], hj', hsn, hsm2, by rw [hmp]; exact hgr, hbq2, ⟨t ++ [(v, b ++ [a])], by rw [hqt, List.append_assoc]⟩, ?_, rfl⟩
            · omega
            · rw [wrap_succ (by omega), ← htp, hmp]
              rfl
        · have hqb0 : (tP qs)[i * 2 + 1]? = some (ints (natI b)) := by rw [tP_by hiq, if_neg hi0, hqi]
          have hqb : pickN 1 (List.drop (i * 2 + 1) (tP qs)) = some [ints (natI b)] := pick_one hqb0
          have hqbc : getC [.sl false 2 qs.length (tP qs)] 0 (some (i * 2 + 1)) = some (ints (natI b)) := hqb0
          have hCl := clone_ret (natI b) (by omega)
          repeat (first | ((first | refine opt_some (getC_rows rfl rfl (by omega)) ?_ | refine opt_some (by dsimp only; exact getC_lent rfl rfl (by omega)) ?_ | refine opt_some rfl ?_ | refine ⟨_, (by simp only [nf, nl, nm, en, ints, setC_setC, Nat.reduceAdd, Nat.reduceMul]; exact rfl), ?_⟩ | refine ⟨_, pickT rfl, ?_⟩ | refine ⟨_, rfl, ?_⟩ | refine iteP_true rfl ?_ | refine iteP_false rfl ?_ | refine iteP_true ‹_› ?_ | refine iteP_false ‹_› ?_ | refine andK ?_ | refine andA ?_ | refine andT ?_); conv => whnf))
          refine ⟨fun x hx => by obtain ⟨e, -, rfl⟩ := List.mem_map.1 hx; rfl, ?_⟩
          conv => whnf
          repeat (first | ((first | refine opt_some (getC_rows rfl rfl (by omega)) ?_ | refine opt_some (by dsimp only; exact getC_lent rfl rfl (by omega)) ?_ | refine opt_some rfl ?_ | refine ⟨_, (by simp only [nf, nl, nm, en, ints, setC_setC, Nat.reduceAdd, Nat.reduceMul, n2, n3]; exact rfl), ?_⟩ | refine ⟨_, pickT rfl, ?_⟩ | refine ⟨_, rfl, ?_⟩ | refine iteP_true rfl ?_ | refine iteP_false rfl ?_ | refine iteP_true ‹_› ?_ | refine iteP_false ‹_› ?_ | refine andK ?_ | refine andA ?_ | refine andT ?_); conv => whnf))
          refine ⟨_, hqb, ?_⟩
          conv => whnf
          repeat (first | ((first | refine opt_some (getC_rows rfl rfl (by omega)) ?_ | refine opt_some (by dsimp only; exact getC_lent rfl rfl (by omega)) ?_ | refine opt_some rfl ?_ | refine ⟨_, (by simp only [nf, nl, nm, en, ints, setC_setC, Nat.reduceAdd, Nat.reduceMul]; exact rfl), ?_⟩ | refine ⟨_, pickT rfl, ?_⟩ | refine ⟨_, rfl, ?_⟩ | refine iteP_true rfl ?_ | refine iteP_false rfl ?_ | refine iteP_true ‹_› ?_ | refine iteP_false ‹_› ?_ | refine andK ?_ | refine andA ?_ | refine andT ?_); conv => whnf))
          refine optG9 hqbc ?_
          conv => whnf
          repeat (first | ((first | refine opt_some (getC_rows rfl rfl (by omega)) ?_ | refine opt_some (by dsimp only; exact getC_lent rfl rfl (by omega)) ?_ | refine opt_some rfl ?_ | refine ⟨_, (by simp only [nf, nl, nm, en, ints, setC_setC, Nat.reduceAdd, Nat.reduceMul]; exact rfl), ?_⟩ | refine ⟨_, pickT rfl, ?_⟩ | refine ⟨_, rfl, ?_⟩ | refine iteP_true rfl ?_ | refine iteP_false rfl ?_ | refine iteP_true ‹_› ?_ | refine iteP_false ‹_› ?_ | refine andK ?_ | refine andA ?_ | refine andT ?_); conv => whnf))
          (refine ⟨_, hCl, ?_⟩; conv => whnf)
          repeat (first | ((first | refine opt_some (getC_rows rfl rfl (by omega)) ?_ | refine opt_some (by dsimp only; exact getC_lent rfl rfl (by omega)) ?_ | refine opt_some rfl ?_ | refine ⟨_, (by simp only [nf, nl, nm, en, ints, setC_setC, Nat.reduceAdd, Nat.reduceMul]; exact rfl), ?_⟩ | refine ⟨_, pickT rfl, ?_⟩ | refine ⟨_, rfl, ?_⟩ | refine iteP_true rfl ?_ | refine iteP_false rfl ?_ | refine iteP_true ‹_› ?_ | refine iteP_false ‹_› ?_ | refine andK ?_ | refine andA ?_ | refine andT ?_); conv => whnf))
          refine iteP_intro (fun hb => ?_) (fun hb => ?_) <;> (conv => whnf)
          · have hbig : 1000 < (qs ++ [(v, b ++ [a])]).length := by rw [List.length_append, List.length_singleton]; have := leT hb; omega
            have hW : qs ++ [(v, b ++ [a])] = pcW ms w := by
              rw [← hF]
              dsimp only
              rw [← List.take_append_drop (j + 1) (fsts ms r), pcL_app, hsn, pcL_sat hbig, pcF_sat hbig]
            repeat' (first | ((first | refine opt_some (getC_rows rfl rfl (by omega)) ?_ | refine opt_some (by dsimp only; exact getC_lent rfl rfl (by omega)) ?_ | refine opt_some rfl ?_ | refine ⟨_, (by simp only [nf, nl, nm, en, ints, setC_setC, Nat.reduceAdd, Nat.reduceMul]; exact rfl), ?_⟩ | refine ⟨_, pickT rfl, ?_⟩ | refine ⟨_, rfl, ?_⟩ | refine iteP_true rfl ?_ | refine iteP_false rfl ?_ | refine iteP_true ‹_› ?_ | refine iteP_false ‹_› ?_ | refine andK ?_ | refine andA ?_ | refine andT ?_); conv => whnf) | (refine iteP_intro (fun hb => ?_) (fun hb => ?_) <;> (conv => whnf)))
            refine ⟨qs ++ [(v, b ++ [a])], ?_, hW, by rw [hmp]; exact hgr, by_all hbq2 (by rw [List.length_append, List.length_singleton]; omega)⟩
            rw [← htp]
            rfl
          · have hsm2 : (qs ++ [(v, b ++ [a])]).length ≤ 1000 := by rw [List.length_append, List.length_singleton]; have := leF hb; omega
            repeat (first | ((first | refine opt_some (getC_rows rfl rfl (by omega)) ?_ | refine opt_some (by dsimp only; exact getC_lent rfl rfl (by omega)) ?_ | refine opt_some rfl ?_ | refine ⟨_, (by simp only [nf, nl, nm, en, ints, setC_setC, Nat.reduceAdd, Nat.reduceMul]; exact rfl), ?_⟩ | refine ⟨_, pickT rfl, ?_⟩ | refine ⟨_, rfl, ?_⟩ | refine iteP_true rfl ?_ | refine iteP_false rfl ?_ | refine iteP_true ‹_› ?_ | refine iteP_false ‹_› ?_ | refine andK ?_ | refine andA ?_ | refine andT ?_); conv => whnf))
            refine ⟨_, ?_, j + 1, qs ++ [(v, b ++ [a])], hj', hsn, hsm2, by rw [hmp]; exact hgr, hbq2, ⟨t ++ [(v, b ++ [a])], by rw [hqt, List.append_assoc]⟩, ?_, rfl⟩
            · omega
            · rw [wrap_succ (by omega), ← htp, hmp]
              rfl
    · have hje : j = (fsts ms r).length := by have := leF hb; omega
      rw [hje, List.take_length] at hcj
      dsimp only at hF
      rw [hcj] at hF
      repeat (first | ((first | refine opt_some (getC_rows rfl rfl (by omega)) ?_ | refine opt_some (by dsimp only; exact getC_lent rfl rfl (by omega)) ?_ | refine opt_some rfl ?_ | refine ⟨_, (by simp only [nf, nl, nm, en, ints, setC_setC, Nat.reduceAdd, Nat.reduceMul]; exact rfl), ?_⟩ | refine ⟨_, pickT rfl, ?_⟩ | refine ⟨_, rfl, ?_⟩ | refine iteP_true rfl ?_ | refine iteP_false rfl ?_ | refine iteP_true ‹_› ?_ | refine iteP_false ‹_› ?_ | refine andK ?_ | refine andA ?_ | refine andT ?_); conv => whnf))
      refine ⟨_, ?_, i + 1, qs, by omega, hql, hq0, hgq, hF, hbq, ?_, rfl⟩
      · omega
      · rw [wrap_succ (by omega)]
        rfl
  · have hi' : ¬ i < ps.length := by have := leF hb; omega
    have hW : pcW ms w = ps := by
      rw [← hF]
      cases h : 1001 - i with
      | zero => rfl
      | succ f => rw [pcF, if_neg (fun h => hi' h.1)]
    repeat' (first | ((first | refine opt_some (getC_rows rfl rfl (by omega)) ?_ | refine opt_some (by dsimp only; exact getC_lent rfl rfl (by omega)) ?_ | refine opt_some rfl ?_ | refine ⟨_, (by simp only [nf, nl, nm, en, ints, setC_setC, Nat.reduceAdd, Nat.reduceMul]; exact rfl), ?_⟩ | refine ⟨_, pickT rfl, ?_⟩ | refine ⟨_, rfl, ?_⟩ | refine iteP_true rfl ?_ | refine iteP_false rfl ?_ | refine iteP_true ‹_› ?_ | refine iteP_false ‹_› ?_ | refine andK ?_ | refine andA ?_ | refine andT ?_); conv => whnf) | (refine iteP_intro (fun hb => ?_) (fun hb => ?_) <;> (conv => whnf)))
    exact ⟨hW.symm, hg, by_all hby (by omega)⟩
end Go.Proofs.YtihdeagknggeiaaDoor
