import Derived.Test.YtpopepcmfanegaaDoorFzg
set_option autoImplicit false
set_option linter.unusedSimpArgs false
set_option linter.unusedVariables false
namespace Go.Proofs.YtpopepcmfanegaaDoor
open Go.Den
def powW (w : List Nat) (k : Nat) : List Nat := (List.replicate k w).flatten
theorem powW_succ (w : List Nat) (k : Nat) : powW w (k + 1) = powW w k ++ w := by
  unfold powW
  rw [List.replicate_succ', List.flatten_append]
  simp
theorem powW_len (w : List Nat) (k : Nat) : (powW w k).length = k * w.length := by
  unfold powW
  simp [List.length_flatten]
theorem powW_mem {w : List Nat} {k c : Nat} (h : c ∈ powW w k) : c ∈ w := by
  obtain ⟨l, hl, hc⟩ := List.mem_flatten.1 h
  rw [List.eq_of_mem_replicate hl] at hc
  exact hc
set_option maxHeartbeats 4000000 in
set_option maxRecDepth 100000 in
theorem power_ret (w : List Nat) (k : Nat) (hw : w.length ≤ 24) (hk : k ≤ 64) : Ret Tryd.prog G0 91 [⟨.ro, .one (ints (natI w))⟩, ⟨.ro, .one (i64 k)⟩] ⟨.one (ints (natI (powW w k))), []⟩ := by
  have hwn := natI_length w
  (refine ret_of_den (E := en 15 [] (fun _ => [(1, 0), (5, 0), (0, 1)]) (fun _ => [])) tt_ok mixed Tryd.func91 rfl rfl rfl rfl ?_; refine ⟨by simp, ?_⟩)
  repeat (first | ((first | refine opt_some (getC_rows rfl rfl (by omega)) ?_ | refine opt_some (by dsimp only; exact getC_lent rfl rfl (by omega)) ?_ | refine opt_some rfl ?_ | refine ⟨_, (by simp only [nf, nl, nm, en, ints, setC_setC, Nat.reduceAdd, Nat.reduceMul]; exact rfl), ?_⟩ | refine ⟨_, pickT rfl, ?_⟩ | refine ⟨_, rfl, ?_⟩ | refine iteP_true rfl ?_ | refine iteP_false rfl ?_ | refine iteP_true ‹_› ?_ | refine iteP_false ‹_› ?_ | refine andK ?_ | refine andA ?_ | refine andT ?_); conv => whnf))
  refine ⟨fun m vs => ∃ i : Nat, i ≤ k ∧ vs = [.one (i64 (k - i : Nat)), .one (ints (natI (powW w i))), .one (.shd (ints (natI w)))] ∧ m = k - i, rfl, ⟨_, 0, by omega, rfl, rfl⟩, ?_⟩
  rintro m vs ⟨i, hi, rfl, rfl⟩
  have hpl := powW_len w i
  have hpb : i * w.length ≤ 64 * 24 := Nat.mul_le_mul (by omega) hw
  have hpn := natI_length (powW w i)
  repeat (first | ((first | refine opt_some (getC_rows rfl rfl (by omega)) ?_ | refine opt_some (by dsimp only; exact getC_lent rfl rfl (by omega)) ?_ | refine opt_some rfl ?_ | refine ⟨_, (by simp only [nf, nl, nm, en, ints, setC_setC, Nat.reduceAdd, Nat.reduceMul]; exact rfl), ?_⟩ | refine ⟨_, pickT rfl, ?_⟩ | refine ⟨_, rfl, ?_⟩ | refine iteP_true rfl ?_ | refine iteP_false rfl ?_ | refine iteP_true ‹_› ?_ | refine iteP_false ‹_› ?_ | refine andK ?_ | refine andA ?_ | refine andT ?_); conv => whnf))
  refine iteP_intro (fun hb => ?_) (fun hb => ?_) <;> (conv => whnf)
  · have hi' : i < k := by have := leT hb; omega
    have hsu := powW_succ w i
    repeat (first | ((first | refine opt_some (getC_rows rfl rfl (by omega)) ?_ | refine opt_some (by dsimp only; exact getC_lent rfl rfl (by omega)) ?_ | refine opt_some rfl ?_ | refine ⟨_, (by simp only [nf, nl, nm, en, ints, setC_setC, Nat.reduceAdd, Nat.reduceMul]; exact rfl), ?_⟩ | refine ⟨_, pickT rfl, ?_⟩ | refine ⟨_, rfl, ?_⟩ | refine iteP_true rfl ?_ | refine iteP_false rfl ?_ | refine iteP_true ‹_› ?_ | refine iteP_false ‹_› ?_ | refine andK ?_ | refine andA ?_ | refine andT ?_); conv => whnf))
    refine ⟨_, ?_, i + 1, hi', ?_, rfl⟩
    · omega
    · rw [wrap_pred (by omega) (by omega), hsu, ints_natI_append]
      rfl
  · obtain rfl : i = k := by have := leF hb; omega
    repeat' (first | ((first | refine opt_some (getC_rows rfl rfl (by omega)) ?_ | refine opt_some (by dsimp only; exact getC_lent rfl rfl (by omega)) ?_ | refine opt_some rfl ?_ | refine ⟨_, (by simp only [nf, nl, nm, en, ints, setC_setC, Nat.reduceAdd, Nat.reduceMul]; exact rfl), ?_⟩ | refine ⟨_, pickT rfl, ?_⟩ | refine ⟨_, rfl, ?_⟩ | refine iteP_true rfl ?_ | refine iteP_false rfl ?_ | refine iteP_true ‹_› ?_ | refine iteP_false ‹_› ?_ | refine andK ?_ | refine andA ?_ | refine andT ?_); conv => whnf) | (refine iteP_intro (fun hb => ?_) (fun hb => ?_) <;> (conv => whnf)))
    rfl
/-- Drawn words. -/
def Drw (n : Nat) (im : List (List Nat)) : Prop := ∀ w ∈ im, w.length ≤ 24 ∧ ∀ c ∈ w, c < n
theorem Drw.snoc {n : Nat} {im : List (List Nat)} (h : Drw n im) {w : List Nat} (hl : w.length ≤ 24) (hw : ∀ c ∈ w, c < n) : Drw n (im ++ [w]) := fun v hv => by
  rcases List.mem_append.1 hv with h' | h'
  · exact h v h'
  · obtain rfl := List.mem_singleton.1 h'
    exact ⟨hl, hw⟩
/-- Rows of a letter map that was drawn. -/
def Rws (rs : List (List Int)) : Prop := rs.length ≤ 9 ∧ ∀ r ∈ rs, r.length ≤ 25
theorem rws_of {n : Nat} {im : List (List Nat)} (h : Drw n im) (hl : im.length ≤ 9) : Rws (im.map natI) := by
  refine ⟨by rw [List.length_map]; exact hl, fun r hr => ?_⟩
  obtain ⟨w, hw, rfl⟩ := List.mem_map.1 hr
  rw [natI_length]
  have := (h w hw).1
  omega
theorem splice_set {ds : List Cell} {k : Nat} {y : Cell} (h : k < ds.length) : splice ds k [y] = ds.set k y := by
  unfold splice
  rw [List.set_eq_take_append_cons_drop, if_pos h]
  simp
theorem optG8 {o : Option Cell} {x : Cell} {p : Cell → Prop} {q : Prop} (h : o = some x) (hp : p x) : optP o p q := by
  rw [h]
  exact .s hp
theorem rowsC_I (im : List (List Nat)) : rowsC im = rowsI (im.map natI) := by simp [rowsC, rowsI]
set_option maxHeartbeats 4000000 in
set_option maxRecDepth 100000 in
theorem draw8_ex (bs : List Int) (hs : Src bs) (a h : Int) (ha : At0 bs a) (ms ds : List Nat) (hA : Alpha ms) (hl : ms.length ≤ 8) (hB : Alpha ds) (hk : ds.length ≤ 8) (most : Nat) (hmost : most ≤ 20) : ∃ r, (∃ (rs : List (List Int)) (a' h' : Int), r = ⟨.one (rowsI rs), [.one (srcC bs a' h')]⟩ ∧ At0 bs a' ∧ Rws rs) ∧ Ret Tryd.prog G0 69 [⟨.mu, .one (srcC bs a h)⟩, ⟨.ro, .agg [i64 ms.length, ints (natI ms)]⟩, ⟨.ro, .agg [i64 ds.length, ints (natI ds)]⟩, ⟨.ro, .one (i64 most)⟩] r := by
  have hnx := fun a h ha n => next_ex bs hs a h n ha
  have hdr := fun a h ha most hm => draw3_ex bs hs a h ha ds.length (natI ds) hk most hm
  unfold srcC byC at *
  (refine rete_of_den (E := en 116 [3098094] (fun | 4 => [(0, 0), (3, 0), (5, 0), (6, 0), (9, 0), (10, 0), (11, 0), (116, 2)] | 8 => [(0, 0), (3, 0), (5, 0), (6, 0), (9, 0), (10, 0), (11, 0), (12, 0), (13, 0), (116, 2)] | 15 => [(0, 0), (3, 0), (5, 0), (6, 0), (9, 0), (10, 0), (11, 0), (12, 0), (13, 0), (14, 0), (15, 0), (116, 2)] | _ => []) (fun _ => [])) tt_ok mixed Tryd.func69 rfl rfl rfl rfl ?_; refine ⟨by simp, ?_⟩)
  repeat' (first | ((first | refine opt_some (getC_rows rfl rfl (by omega)) ?_ | refine opt_some (by dsimp only; exact getC_lent rfl rfl (by omega)) ?_ | refine opt_some rfl ?_ | refine ⟨_, (by simp only [nf, nl, nm, en, ints, setC_setC, Nat.reduceAdd, Nat.reduceMul]; exact rfl), ?_⟩ | refine ⟨_, pickT rfl, ?_⟩ | refine ⟨_, rfl, ?_⟩ | refine iteP_true rfl ?_ | refine iteP_false rfl ?_ | refine iteP_true ‹_› ?_ | refine iteP_false ‹_› ?_ | refine andK ?_ | refine andA ?_ | refine andT ?_); conv => whnf) | (refine iteP_intro (fun hb => ?_) (fun hb => ?_) <;> (conv => whnf)))
  obtain ⟨r0, ⟨t, a0, h0, rfl, ha0, ht, htl⟩, hr0⟩ := hdr a h ha 2 (by omega)
  have hmn := natI_length ms
  have hdn := natI_length ds
  (refine ⟨_, hr0, ?_⟩; conv => whnf)
  repeat (first | ((first | refine opt_some (getC_rows rfl rfl (by omega)) ?_ | refine opt_some (by dsimp only; exact getC_lent rfl rfl (by omega)) ?_ | refine opt_some rfl ?_ | refine ⟨_, (by simp only [nf, nl, nm, en, ints, setC_setC, Nat.reduceAdd, Nat.reduceMul]; exact rfl), ?_⟩ | refine ⟨_, pickT rfl, ?_⟩ | refine ⟨_, rfl, ?_⟩ | refine iteP_true rfl ?_ | refine iteP_false rfl ?_ | refine iteP_true ‹_› ?_ | refine iteP_false ‹_› ?_ | refine andK ?_ | refine andA ?_ | refine andT ?_); conv => whnf))
  refine ⟨fun k vs => ∃ (i : Nat) (im : List (List Nat)) (a' h' : Int), i ≤ ms.length ∧ At0 bs a' ∧ im.length = i ∧ Drw ds.length im ∧ vs = [.one (.ptr [.shd (.sl false 1 bs.length (bs.map u8c)), i64 a', .c (.int .u64 h')]), .one (i64 most), .one (.ptr [i64 ms.length, .shd (ints (natI ms))]), .one (.ptr [i64 ds.length, .shd (ints (natI ds))]), .one (.sl false 1 im.length (im.map fun r => ints (natI r))), .one (ints (natI t)), .one (i64 i), .dead] ∧ k = ms.length - i, rfl, ⟨_, 0, [], a0, h0, by omega, ha0, rfl, by simp [Drw], rfl, rfl⟩, ?_⟩
  rintro k vs ⟨i, im, a1, h1, hi, ha1, hil, him, rfl, rfl⟩
  repeat (first | ((first | refine opt_some (getC_rows rfl rfl (by omega)) ?_ | refine opt_some (by dsimp only; exact getC_lent rfl rfl (by omega)) ?_ | refine opt_some rfl ?_ | refine ⟨_, (by simp only [nf, nl, nm, en, ints, setC_setC, Nat.reduceAdd, Nat.reduceMul]; exact rfl), ?_⟩ | refine ⟨_, pickT rfl, ?_⟩ | refine ⟨_, rfl, ?_⟩ | refine iteP_true rfl ?_ | refine iteP_false rfl ?_ | refine iteP_true ‹_› ?_ | refine iteP_false ‹_› ?_ | refine andK ?_ | refine andA ?_ | refine andT ?_); conv => whnf))
  refine iteP_intro (fun hb => ?_) (fun hb => ?_) <;> (conv => whnf)
  · have hi' : i < ms.length := by have := leT hb; omega
    have hnew : ∀ w : List Nat, Cell.sl false 1 (im.length + 1) (im.map (fun w => ints (natI w)) ++ [ints (natI w)]) = .sl false 1 (im ++ [w]).length ((im ++ [w]).map fun r => ints (natI r)) := fun w => by simp
    repeat (first | ((first | refine opt_some (getC_rows rfl rfl (by omega)) ?_ | refine opt_some (by dsimp only; exact getC_lent rfl rfl (by omega)) ?_ | refine opt_some rfl ?_ | refine ⟨_, (by simp only [nf, nl, nm, en, ints, setC_setC, Nat.reduceAdd, Nat.reduceMul]; exact rfl), ?_⟩ | refine ⟨_, pickT rfl, ?_⟩ | refine ⟨_, rfl, ?_⟩ | refine iteP_true rfl ?_ | refine iteP_false rfl ?_ | refine iteP_true ‹_› ?_ | refine iteP_false ‹_› ?_ | refine andK ?_ | refine andA ?_ | refine andT ?_); conv => whnf))
    refine ⟨fun k vs => ∃ (j : Nat) (w : List Nat) (a' h' : Int), j ≤ 6 ∧ At0 bs a' ∧ w.length ≤ 24 ∧ (∀ c ∈ w, c < ds.length) ∧ vs = [.one (.ptr [.shd (.sl false 1 bs.length (bs.map u8c)), i64 a', .c (.int .u64 h')]), .one (i64 most), .one (.ptr [i64 ms.length, .shd (ints (natI ms))]), .one (.ptr [i64 ds.length, .shd (ints (natI ds))]), .one (.sl false 1 im.length (im.map fun r => ints (natI r))), .one (ints (natI t)), .one (i64 i), .one (ints (natI w)), .one (i64 j), .dead] ∧ k = 6 - j, rfl, ⟨_, 0, [], a1, h1, by omega, ha1, by simp, by simp, rfl, rfl⟩, ?_⟩
    rintro k vs ⟨j, w, a2, h2, hj, ha2, hwl, hw, rfl, rfl⟩
    have hfin : ∀ (w : List Nat) (a2 h2 : Int), At0 bs a2 → w.length ≤ 24 → (∀ c ∈ w, c < ds.length) → Drw ds.length (im ++ [w]) ∧ (im ++ [w]).length = i + 1 := fun w a2 h2 _ h1 h2 => ⟨him.snoc h1 h2, by rw [List.length_append, hil]; rfl⟩
    repeat (first | ((first | refine opt_some (getC_rows rfl rfl (by omega)) ?_ | refine opt_some (by dsimp only; exact getC_lent rfl rfl (by omega)) ?_ | refine opt_some rfl ?_ | refine ⟨_, (by simp only [nf, nl, nm, en, ints, setC_setC, Nat.reduceAdd, Nat.reduceMul]; exact rfl), ?_⟩ | refine ⟨_, pickT rfl, ?_⟩ | refine ⟨_, rfl, ?_⟩ | refine iteP_true rfl ?_ | refine iteP_false rfl ?_ | refine iteP_true ‹_› ?_ | refine iteP_false ‹_› ?_ | refine andK ?_ | refine andA ?_ | refine andT ?_); conv => whnf))
    refine iteP_intro (fun hb => ?_) (fun hb => ?_) <;> (conv => whnf)
    · have hj' : j < 6 := by have := leT hb; omega
      obtain ⟨r3, ⟨u, a3, h3, rfl, ha3, hu, hul⟩, hr3⟩ := hdr a2 h2 ha2 most (by omega)
      repeat (first | ((first | refine opt_some (getC_rows rfl rfl (by omega)) ?_ | refine opt_some (by dsimp only; exact getC_lent rfl rfl (by omega)) ?_ | refine opt_some rfl ?_ | refine ⟨_, (by simp only [nf, nl, nm, en, ints, setC_setC, Nat.reduceAdd, Nat.reduceMul]; exact rfl), ?_⟩ | refine ⟨_, pickT rfl, ?_⟩ | refine ⟨_, rfl, ?_⟩ | refine iteP_true rfl ?_ | refine iteP_false rfl ?_ | refine iteP_true ‹_› ?_ | refine iteP_false ‹_› ?_ | refine andK ?_ | refine andA ?_ | refine andT ?_); conv => whnf))
      (refine ⟨_, hr3, ?_⟩; conv => whnf)
      obtain ⟨r4, ⟨x4, a4, h4, rfl, ha4, -, -, -⟩, hr4⟩ := hnx a3 h3 ha3 3
      repeat (first | ((first | refine opt_some (getC_rows rfl rfl (by omega)) ?_ | refine opt_some (by dsimp only; exact getC_lent rfl rfl (by omega)) ?_ | refine opt_some rfl ?_ | refine ⟨_, (by simp only [nf, nl, nm, en, ints, setC_setC, Nat.reduceAdd, Nat.reduceMul]; exact rfl), ?_⟩ | refine ⟨_, pickT rfl, ?_⟩ | refine ⟨_, rfl, ?_⟩ | refine iteP_true rfl ?_ | refine iteP_false rfl ?_ | refine iteP_true ‹_› ?_ | refine iteP_false ‹_› ?_ | refine andK ?_ | refine andA ?_ | refine andT ?_); conv => whnf))
      (refine ⟨_, hr4, ?_⟩; conv => whnf)
      repeat (first | ((first | refine opt_some (getC_rows rfl rfl (by omega)) ?_ | refine opt_some (by dsimp only; exact getC_lent rfl rfl (by omega)) ?_ | refine opt_some rfl ?_ | refine ⟨_, (by simp only [nf, nl, nm, en, ints, setC_setC, Nat.reduceAdd, Nat.reduceMul]; exact rfl), ?_⟩ | refine ⟨_, pickT rfl, ?_⟩ | refine ⟨_, rfl, ?_⟩ | refine iteP_true rfl ?_ | refine iteP_false rfl ?_ | refine iteP_true ‹_› ?_ | refine iteP_false ‹_› ?_ | refine andK ?_ | refine andA ?_ | refine andT ?_); conv => whnf))
      have rest : ∀ (u : List Nat) (a4 h4 : Int), At0 bs a4 → u.length ≤ 24 → (∀ c ∈ u, c < ds.length) → True := fun _ _ _ _ _ _ => trivial
      refine iteP_intro (fun hb => ?_) (fun hb => ?_) <;> (conv => whnf)
      · obtain ⟨r5, ⟨x5, a5, h5, rfl, ha5, hx50, -, hx51⟩, hr5⟩ := hnx a4 h4 ha4 3
        have hx51 := hx51 (by omega)
        obtain ⟨q, rfl⟩ : ∃ q : Nat, x5 = q := ⟨x5.toNat, by omega⟩
        have hpl := powW_len t q
        have hpb : q * t.length ≤ 3 * 2 := Nat.mul_le_mul (by omega) htl
        repeat (first | ((first | refine opt_some (getC_rows rfl rfl (by omega)) ?_ | refine opt_some (by dsimp only; exact getC_lent rfl rfl (by omega)) ?_ | refine opt_some rfl ?_ | refine ⟨_, (by simp only [nf, nl, nm, en, ints, setC_setC, Nat.reduceAdd, Nat.reduceMul]; exact rfl), ?_⟩ | refine ⟨_, pickT rfl, ?_⟩ | refine ⟨_, rfl, ?_⟩ | refine iteP_true rfl ?_ | refine iteP_false rfl ?_ | refine iteP_true ‹_› ?_ | refine iteP_false ‹_› ?_ | refine andK ?_ | refine andA ?_ | refine andT ?_); conv => whnf))
        (refine ⟨_, hr5, ?_⟩; conv => whnf)
        repeat (first | ((first | refine opt_some (getC_rows rfl rfl (by omega)) ?_ | refine opt_some (by dsimp only; exact getC_lent rfl rfl (by omega)) ?_ | refine opt_some rfl ?_ | refine ⟨_, (by simp only [nf, nl, nm, en, ints, setC_setC, Nat.reduceAdd, Nat.reduceMul]; exact rfl), ?_⟩ | refine ⟨_, pickT rfl, ?_⟩ | refine ⟨_, rfl, ?_⟩ | refine iteP_true rfl ?_ | refine iteP_false rfl ?_ | refine iteP_true ‹_› ?_ | refine iteP_false ‹_› ?_ | refine andK ?_ | refine andA ?_ | refine andT ?_); conv => whnf))
        (refine ⟨_, power_ret t q (by omega) (by omega), ?_⟩; conv => whnf)
        repeat (first | ((first | refine opt_some (getC_rows rfl rfl (by omega)) ?_ | refine opt_some (by dsimp only; exact getC_lent rfl rfl (by omega)) ?_ | refine opt_some rfl ?_ | refine ⟨_, (by simp only [nf, nl, nm, en, ints, setC_setC, Nat.reduceAdd, Nat.reduceMul]; exact rfl), ?_⟩ | refine ⟨_, pickT rfl, ?_⟩ | refine ⟨_, rfl, ?_⟩ | refine iteP_true rfl ?_ | refine iteP_false rfl ?_ | refine iteP_true ‹_› ?_ | refine iteP_false ‹_› ?_ | refine andK ?_ | refine andA ?_ | refine andT ?_); conv => whnf))
        have hun := natI_length (powW t q)
        have hul := (show (powW t q).length ≤ 24 by omega)
        have hu := fun c (hc : c ∈ powW t q) => ht c (powW_mem hc)
        refine ⟨fun k vs => ∃ (b : Nat) (f : Bool), b ≤ i ∧ vs = [.one (.ptr [.shd (.sl false 1 bs.length (bs.map u8c)), i64 a5, .c (.int .u64 h5)]), .one (i64 most), .one (.ptr [i64 ms.length, .shd (ints (natI ms))]), .one (.ptr [i64 ds.length, .shd (ints (natI ds))]), .one (.sl false 1 im.length (im.map fun r => ints (natI r))), .one (ints (natI t)), .one (i64 i), .one (ints (natI (powW t q))), .one (i64 j), .one (.c (.bool f)), .one (i64 b), .dead] ∧ k = i - b, rfl, ⟨_, 0, true, by omega, rfl, rfl⟩, ?_⟩
        rintro k vs ⟨b, f, hbi, rfl, rfl⟩
        repeat (first | ((first | refine opt_some (getC_rows rfl rfl (by omega)) ?_ | refine opt_some (by dsimp only; exact getC_lent rfl rfl (by omega)) ?_ | refine opt_some rfl ?_ | refine ⟨_, (by simp only [nf, nl, nm, en, ints, setC_setC, Nat.reduceAdd, Nat.reduceMul]; exact rfl), ?_⟩ | refine ⟨_, pickT rfl, ?_⟩ | refine ⟨_, rfl, ?_⟩ | refine iteP_true rfl ?_ | refine iteP_false rfl ?_ | refine iteP_true ‹_› ?_ | refine iteP_false ‹_› ?_ | refine andK ?_ | refine andA ?_ | refine andT ?_); conv => whnf))
        refine iteP_intro (fun hb => ?_) (fun hb => ?_) <;> (conv => whnf)
        · have hb' : b < i := by have := leT hb; omega
          have hD := l02Dep_ret ms.length ms i b hi' (by omega) (by omega) hA.lt
          have hE : ∃ dp, (ms.getD i 0).testBit b = dp := ⟨_, rfl⟩; obtain ⟨dp, hdp⟩ := hE
          rw [hdp] at hD
          cases f with
          | false =>
            repeat (first | ((first | refine opt_some (getC_rows rfl rfl (by omega)) ?_ | refine opt_some (by dsimp only; exact getC_lent rfl rfl (by omega)) ?_ | refine opt_some rfl ?_ | refine ⟨_, (by simp only [nf, nl, nm, en, ints, setC_setC, Nat.reduceAdd, Nat.reduceMul]; exact rfl), ?_⟩ | refine ⟨_, pickT rfl, ?_⟩ | refine ⟨_, rfl, ?_⟩ | refine iteP_true rfl ?_ | refine iteP_false rfl ?_ | refine iteP_true ‹_› ?_ | refine iteP_false ‹_› ?_ | refine andK ?_ | refine andA ?_ | refine andT ?_); conv => whnf))
            refine ⟨_, ?_, b + 1, false, hb', ?_, rfl⟩
            · omega
            · rw [wrap_succ (by omega)]
              rfl
          | true =>
            repeat (first | ((first | refine opt_some (getC_rows rfl rfl (by omega)) ?_ | refine opt_some (by dsimp only; exact getC_lent rfl rfl (by omega)) ?_ | refine opt_some rfl ?_ | refine ⟨_, (by simp only [nf, nl, nm, en, ints, setC_setC, Nat.reduceAdd, Nat.reduceMul]; exact rfl), ?_⟩ | refine ⟨_, pickT rfl, ?_⟩ | refine ⟨_, rfl, ?_⟩ | refine iteP_true rfl ?_ | refine iteP_false rfl ?_ | refine iteP_true ‹_› ?_ | refine iteP_false ‹_› ?_ | refine andK ?_ | refine andA ?_ | refine andT ?_); conv => whnf))
            (refine ⟨_, hD, ?_⟩; conv => whnf)
            cases dp with
            | true =>
              repeat (first | ((first | refine opt_some (getC_rows rfl rfl (by omega)) ?_ | refine opt_some (by dsimp only; exact getC_lent rfl rfl (by omega)) ?_ | refine opt_some rfl ?_ | refine ⟨_, (by simp only [nf, nl, nm, en, ints, setC_setC, Nat.reduceAdd, Nat.reduceMul]; exact rfl), ?_⟩ | refine ⟨_, pickT rfl, ?_⟩ | refine ⟨_, rfl, ?_⟩ | refine iteP_true rfl ?_ | refine iteP_false rfl ?_ | refine iteP_true ‹_› ?_ | refine iteP_false ‹_› ?_ | refine andK ?_ | refine andA ?_ | refine andT ?_); conv => whnf))
              refine ⟨_, ?_, b + 1, true, hb', ?_, rfl⟩
              · omega
              · rw [wrap_succ (by omega)]
                rfl
            | false =>
              have hbm : b < im.length := by omega
              have hE2 := him im[b] (List.getElem_mem hbm); obtain ⟨hvl, hv⟩ := hE2
              have hvn := natI_length im[b]
              have hS := l03Same_ret ds (im[b] ++ (powW t q)) ((powW t q) ++ im[b]) hB (by omega) (fun c hc => (List.mem_append.1 hc).elim (hv c) (hu c)) (fun c hc => (List.mem_append.1 hc).elim (hu c) (hv c)) (by rw [List.length_append]; omega) (by rw [List.length_append]; omega)
              rw [ints_natI_append, ints_natI_append] at hS
              repeat (first | ((first | refine opt_some (getC_rows rfl rfl (by omega)) ?_ | refine opt_some (by dsimp only; exact getC_lent rfl rfl (by omega)) ?_ | refine opt_some rfl ?_ | refine ⟨_, (by simp only [nf, nl, nm, en, ints, setC_setC, Nat.reduceAdd, Nat.reduceMul]; exact rfl), ?_⟩ | refine ⟨_, pickT rfl, ?_⟩ | refine ⟨_, rfl, ?_⟩ | refine iteP_true rfl ?_ | refine iteP_false rfl ?_ | refine iteP_true ‹_› ?_ | refine iteP_false ‹_› ?_ | refine andK ?_ | refine andA ?_ | refine andT ?_); conv => whnf))
              (refine ⟨_, l01Own_ret (natI im[b]) (by omega), ?_⟩; conv => whnf)
              repeat (first | ((first | refine opt_some (getC_rows rfl rfl (by omega)) ?_ | refine opt_some (by dsimp only; exact getC_lent rfl rfl (by omega)) ?_ | refine opt_some rfl ?_ | refine ⟨_, (by simp only [nf, nl, nm, en, ints, setC_setC, Nat.reduceAdd, Nat.reduceMul]; exact rfl), ?_⟩ | refine ⟨_, pickT rfl, ?_⟩ | refine ⟨_, rfl, ?_⟩ | refine iteP_true rfl ?_ | refine iteP_false rfl ?_ | refine iteP_true ‹_› ?_ | refine iteP_false ‹_› ?_ | refine andK ?_ | refine andA ?_ | refine andT ?_); conv => whnf))
              (refine ⟨_, l01Own_ret (natI (powW t q)) (by omega), ?_⟩; conv => whnf)
              repeat (first | ((first | refine opt_some (getC_rows rfl rfl (by omega)) ?_ | refine opt_some (by dsimp only; exact getC_lent rfl rfl (by omega)) ?_ | refine opt_some rfl ?_ | refine ⟨_, (by simp only [nf, nl, nm, en, ints, setC_setC, Nat.reduceAdd, Nat.reduceMul]; exact rfl), ?_⟩ | refine ⟨_, pickT rfl, ?_⟩ | refine ⟨_, rfl, ?_⟩ | refine iteP_true rfl ?_ | refine iteP_false rfl ?_ | refine iteP_true ‹_› ?_ | refine iteP_false ‹_› ?_ | refine andK ?_ | refine andA ?_ | refine andT ?_); conv => whnf))
              (refine ⟨_, hS, ?_⟩; conv => whnf)
              repeat (first | ((first | refine opt_some (getC_rows rfl rfl (by omega)) ?_ | refine opt_some (by dsimp only; exact getC_lent rfl rfl (by omega)) ?_ | refine opt_some rfl ?_ | refine ⟨_, (by simp only [nf, nl, nm, en, ints, setC_setC, Nat.reduceAdd, Nat.reduceMul]; exact rfl), ?_⟩ | refine ⟨_, pickT rfl, ?_⟩ | refine ⟨_, rfl, ?_⟩ | refine iteP_true rfl ?_ | refine iteP_false rfl ?_ | refine iteP_true ‹_› ?_ | refine iteP_false ‹_› ?_ | refine andK ?_ | refine andA ?_ | refine andT ?_); conv => whnf))
              refine ⟨_, ?_, b + 1, sameN ds (im[b] ++ (powW t q)) ((powW t q) ++ im[b]), hb', ?_, rfl⟩
              · omega
              · rw [wrap_succ (by omega)]
                rfl
        · cases f with
          | true =>
            have hE3 := hfin (powW t q) a5 h5 ha5 hul hu; obtain ⟨hq1, hq2⟩ := hE3
            repeat (first | ((first | refine opt_some (getC_rows rfl rfl (by omega)) ?_ | refine opt_some (by dsimp only; exact getC_lent rfl rfl (by omega)) ?_ | refine opt_some rfl ?_ | refine ⟨_, (by simp only [nf, nl, nm, en, ints, setC_setC, Nat.reduceAdd, Nat.reduceMul]; exact rfl), ?_⟩ | refine ⟨_, pickT rfl, ?_⟩ | refine ⟨_, rfl, ?_⟩ | refine iteP_true rfl ?_ | refine iteP_false rfl ?_ | refine iteP_true ‹_› ?_ | refine iteP_false ‹_› ?_ | refine andK ?_ | refine andA ?_ | refine andT ?_); conv => whnf))
            refine ⟨_, ?_, i + 1, im ++ [powW t q], a5, h5, hi', ha5, hq2, hq1, ?_, rfl⟩
            · omega
            · rw [wrap_succ (by omega), ← hnew]
              rfl
          | false =>
            repeat (first | ((first | refine opt_some (getC_rows rfl rfl (by omega)) ?_ | refine opt_some (by dsimp only; exact getC_lent rfl rfl (by omega)) ?_ | refine opt_some rfl ?_ | refine ⟨_, (by simp only [nf, nl, nm, en, ints, setC_setC, Nat.reduceAdd, Nat.reduceMul]; exact rfl), ?_⟩ | refine ⟨_, pickT rfl, ?_⟩ | refine ⟨_, rfl, ?_⟩ | refine iteP_true rfl ?_ | refine iteP_false rfl ?_ | refine iteP_true ‹_› ?_ | refine iteP_false ‹_› ?_ | refine andK ?_ | refine andA ?_ | refine andT ?_); conv => whnf))
            refine ⟨_, ?_, j + 1, [], a5, h5, hj', ha5, by simp, by simp, ?_, rfl⟩
            · omega
            · rw [wrap_succ (by omega)]
              rfl
      · have hul2 : u.length ≤ 24 := by omega
        repeat (first | ((first | refine opt_some (getC_rows rfl rfl (by omega)) ?_ | refine opt_some (by dsimp only; exact getC_lent rfl rfl (by omega)) ?_ | refine opt_some rfl ?_ | refine ⟨_, (by simp only [nf, nl, nm, en, ints, setC_setC, Nat.reduceAdd, Nat.reduceMul]; exact rfl), ?_⟩ | refine ⟨_, pickT rfl, ?_⟩ | refine ⟨_, rfl, ?_⟩ | refine iteP_true rfl ?_ | refine iteP_false rfl ?_ | refine iteP_true ‹_› ?_ | refine iteP_false ‹_› ?_ | refine andK ?_ | refine andA ?_ | refine andT ?_); conv => whnf))
        have hun := natI_length (u)
        have hul := hul2
        have hu := hu
        refine ⟨fun k vs => ∃ (b : Nat) (f : Bool), b ≤ i ∧ vs = [.one (.ptr [.shd (.sl false 1 bs.length (bs.map u8c)), i64 a4, .c (.int .u64 h4)]), .one (i64 most), .one (.ptr [i64 ms.length, .shd (ints (natI ms))]), .one (.ptr [i64 ds.length, .shd (ints (natI ds))]), .one (.sl false 1 im.length (im.map fun r => ints (natI r))), .one (ints (natI t)), .one (i64 i), .one (ints (natI (u))), .one (i64 j), .one (.c (.bool f)), .one (i64 b), .dead] ∧ k = i - b, rfl, ⟨_, 0, true, by omega, rfl, rfl⟩, ?_⟩
        rintro k vs ⟨b, f, hbi, rfl, rfl⟩
        repeat (first | ((first | refine opt_some (getC_rows rfl rfl (by omega)) ?_ | refine opt_some (by dsimp only; exact getC_lent rfl rfl (by omega)) ?_ | refine opt_some rfl ?_ | refine ⟨_, (by simp only [nf, nl, nm, en, ints, setC_setC, Nat.reduceAdd, Nat.reduceMul]; exact rfl), ?_⟩ | refine ⟨_, pickT rfl, ?_⟩ | refine ⟨_, rfl, ?_⟩ | refine iteP_true rfl ?_ | refine iteP_false rfl ?_ | refine iteP_true ‹_› ?_ | refine iteP_false ‹_› ?_ | refine andK ?_ | refine andA ?_ | refine andT ?_); conv => whnf))
        refine iteP_intro (fun hb => ?_) (fun hb => ?_) <;> (conv => whnf)
        · have hb' : b < i := by have := leT hb; omega
          have hD := l02Dep_ret ms.length ms i b hi' (by omega) (by omega) hA.lt
          have hE : ∃ dp, (ms.getD i 0).testBit b = dp := ⟨_, rfl⟩; obtain ⟨dp, hdp⟩ := hE
          rw [hdp] at hD
          cases f with
          | false =>
            repeat (first | ((first | refine opt_some (getC_rows rfl rfl (by omega)) ?_ | refine opt_some (by dsimp only; exact getC_lent rfl rfl (by omega)) ?_ | refine opt_some rfl ?_ | refine ⟨_, (by simp only [nf, nl, nm, en, ints, setC_setC, Nat.reduceAdd, Nat.reduceMul]; exact rfl), ?_⟩ | refine ⟨_, pickT rfl, ?_⟩ | refine ⟨_, rfl, ?_⟩ | refine iteP_true rfl ?_ | refine iteP_false rfl ?_ | refine iteP_true ‹_› ?_ | refine iteP_false ‹_› ?_ | refine andK ?_ | refine andA ?_ | refine andT ?_); conv => whnf))
            refine ⟨_, ?_, b + 1, false, hb', ?_, rfl⟩
            · omega
            · rw [wrap_succ (by omega)]
              rfl
          | true =>
            repeat (first | ((first | refine opt_some (getC_rows rfl rfl (by omega)) ?_ | refine opt_some (by dsimp only; exact getC_lent rfl rfl (by omega)) ?_ | refine opt_some rfl ?_ | refine ⟨_, (by simp only [nf, nl, nm, en, ints, setC_setC, Nat.reduceAdd, Nat.reduceMul]; exact rfl), ?_⟩ | refine ⟨_, pickT rfl, ?_⟩ | refine ⟨_, rfl, ?_⟩ | refine iteP_true rfl ?_ | refine iteP_false rfl ?_ | refine iteP_true ‹_› ?_ | refine iteP_false ‹_› ?_ | refine andK ?_ | refine andA ?_ | refine andT ?_); conv => whnf))
            (refine ⟨_, hD, ?_⟩; conv => whnf)
            cases dp with
            | true =>
              repeat (first | ((first | refine opt_some (getC_rows rfl rfl (by omega)) ?_ | refine opt_some (by dsimp only; exact getC_lent rfl rfl (by omega)) ?_ | refine opt_some rfl ?_ | refine ⟨_, (by simp only [nf, nl, nm, en, ints, setC_setC, Nat.reduceAdd, Nat.reduceMul]; exact rfl), ?_⟩ | refine ⟨_, pickT rfl, ?_⟩ | refine ⟨_, rfl, ?_⟩ | refine iteP_true rfl ?_ | refine iteP_false rfl ?_ | refine iteP_true ‹_› ?_ | refine iteP_false ‹_› ?_ | refine andK ?_ | refine andA ?_ | refine andT ?_); conv => whnf))
              refine ⟨_, ?_, b + 1, true, hb', ?_, rfl⟩
              · omega
              · rw [wrap_succ (by omega)]
                rfl
            | false =>
              have hbm : b < im.length := by omega
              have hE2 := him im[b] (List.getElem_mem hbm); obtain ⟨hvl, hv⟩ := hE2
              have hvn := natI_length im[b]
              have hS := l03Same_ret ds (im[b] ++ (u)) ((u) ++ im[b]) hB (by omega) (fun c hc => (List.mem_append.1 hc).elim (hv c) (hu c)) (fun c hc => (List.mem_append.1 hc).elim (hu c) (hv c)) (by rw [List.length_append]; omega) (by rw [List.length_append]; omega)
              rw [ints_natI_append, ints_natI_append] at hS
              repeat (first | ((first | refine opt_some (getC_rows rfl rfl (by omega)) ?_ | refine opt_some (by dsimp only; exact getC_lent rfl rfl (by omega)) ?_ | refine opt_some rfl ?_ | refine ⟨_, (by simp only [nf, nl, nm, en, ints, setC_setC, Nat.reduceAdd, Nat.reduceMul]; exact rfl), ?_⟩ | refine ⟨_, pickT rfl, ?_⟩ | refine ⟨_, rfl, ?_⟩ | refine iteP_true rfl ?_ | refine iteP_false rfl ?_ | refine iteP_true ‹_› ?_ | refine iteP_false ‹_› ?_ | refine andK ?_ | refine andA ?_ | refine andT ?_); conv => whnf))
              (refine ⟨_, l01Own_ret (natI im[b]) (by omega), ?_⟩; conv => whnf)
              repeat (first | ((first | refine opt_some (getC_rows rfl rfl (by omega)) ?_ | refine opt_some (by dsimp only; exact getC_lent rfl rfl (by omega)) ?_ | refine opt_some rfl ?_ | refine ⟨_, (by simp only [nf, nl, nm, en, ints, setC_setC, Nat.reduceAdd, Nat.reduceMul]; exact rfl), ?_⟩ | refine ⟨_, pickT rfl, ?_⟩ | refine ⟨_, rfl, ?_⟩ | refine iteP_true rfl ?_ | refine iteP_false rfl ?_ | refine iteP_true ‹_› ?_ | refine iteP_false ‹_› ?_ | refine andK ?_ | refine andA ?_ | refine andT ?_); conv => whnf))
              (refine ⟨_, l01Own_ret (natI (u)) (by omega), ?_⟩; conv => whnf)
              repeat (first | ((first | refine opt_some (getC_rows rfl rfl (by omega)) ?_ | refine opt_some (by dsimp only; exact getC_lent rfl rfl (by omega)) ?_ | refine opt_some rfl ?_ | refine ⟨_, (by simp only [nf, nl, nm, en, ints, setC_setC, Nat.reduceAdd, Nat.reduceMul]; exact rfl), ?_⟩ | refine ⟨_, pickT rfl, ?_⟩ | refine ⟨_, rfl, ?_⟩ | refine iteP_true rfl ?_ | refine iteP_false rfl ?_ | refine iteP_true ‹_› ?_ | refine iteP_false ‹_› ?_ | refine andK ?_ | refine andA ?_ | refine andT ?_); conv => whnf))
              (refine ⟨_, hS, ?_⟩; conv => whnf)
              repeat (first | ((first | refine opt_some (getC_rows rfl rfl (by omega)) ?_ | refine opt_some (by dsimp only; exact getC_lent rfl rfl (by omega)) ?_ | refine opt_some rfl ?_ | refine ⟨_, (by simp only [nf, nl, nm, en, ints, setC_setC, Nat.reduceAdd, Nat.reduceMul]; exact rfl), ?_⟩ | refine ⟨_, pickT rfl, ?_⟩ | refine ⟨_, rfl, ?_⟩ | refine iteP_true rfl ?_ | refine iteP_false rfl ?_ | refine iteP_true ‹_› ?_ | refine iteP_false ‹_› ?_ | refine andK ?_ | refine andA ?_ | refine andT ?_); conv => whnf))
              refine ⟨_, ?_, b + 1, sameN ds (im[b] ++ (u)) ((u) ++ im[b]), hb', ?_, rfl⟩
              · omega
              · rw [wrap_succ (by omega)]
                rfl
        · cases f with
          | true =>
            have hE3 := hfin u a4 h4 ha4 hul hu; obtain ⟨hq1, hq2⟩ := hE3
            repeat (first | ((first | refine opt_some (getC_rows rfl rfl (by omega)) ?_ | refine opt_some (by dsimp only; exact getC_lent rfl rfl (by omega)) ?_ | refine opt_some rfl ?_ | refine ⟨_, (by simp only [nf, nl, nm, en, ints, setC_setC, Nat.reduceAdd, Nat.reduceMul]; exact rfl), ?_⟩ | refine ⟨_, pickT rfl, ?_⟩ | refine ⟨_, rfl, ?_⟩ | refine iteP_true rfl ?_ | refine iteP_false rfl ?_ | refine iteP_true ‹_› ?_ | refine iteP_false ‹_› ?_ | refine andK ?_ | refine andA ?_ | refine andT ?_); conv => whnf))
            refine ⟨_, ?_, i + 1, im ++ [u], a4, h4, hi', ha4, hq2, hq1, ?_, rfl⟩
            · omega
            · rw [wrap_succ (by omega), ← hnew]
              rfl
          | false =>
            repeat (first | ((first | refine opt_some (getC_rows rfl rfl (by omega)) ?_ | refine opt_some (by dsimp only; exact getC_lent rfl rfl (by omega)) ?_ | refine opt_some rfl ?_ | refine ⟨_, (by simp only [nf, nl, nm, en, ints, setC_setC, Nat.reduceAdd, Nat.reduceMul]; exact rfl), ?_⟩ | refine ⟨_, pickT rfl, ?_⟩ | refine ⟨_, rfl, ?_⟩ | refine iteP_true rfl ?_ | refine iteP_false rfl ?_ | refine iteP_true ‹_› ?_ | refine iteP_false ‹_› ?_ | refine andK ?_ | refine andA ?_ | refine andT ?_); conv => whnf))
            refine ⟨_, ?_, j + 1, [], a4, h4, hj', ha4, by simp, by simp, ?_, rfl⟩
            · omega
            · rw [wrap_succ (by omega)]
              rfl
    · have hE3 := hfin w a2 h2 ha2 hwl hw; obtain ⟨hq1, hq2⟩ := hE3
      repeat (first | ((first | refine opt_some (getC_rows rfl rfl (by omega)) ?_ | refine opt_some (by dsimp only; exact getC_lent rfl rfl (by omega)) ?_ | refine opt_some rfl ?_ | refine ⟨_, (by simp only [nf, nl, nm, en, ints, setC_setC, Nat.reduceAdd, Nat.reduceMul]; exact rfl), ?_⟩ | refine ⟨_, pickT rfl, ?_⟩ | refine ⟨_, rfl, ?_⟩ | refine iteP_true rfl ?_ | refine iteP_false rfl ?_ | refine iteP_true ‹_› ?_ | refine iteP_false ‹_› ?_ | refine andK ?_ | refine andA ?_ | refine andT ?_); conv => whnf))
      refine ⟨_, ?_, i + 1, im ++ [w], a2, h2, hi', ha2, hq2, hq1, ?_, rfl⟩
      · omega
      · rw [wrap_succ (by omega), ← hnew]
        rfl
  · obtain rfl : i = ms.length := by have := leF hb; omega
    have hrw := rws_of him (by omega)
    have hrc : Cell.sl false 1 im.length (im.map fun r => ints (natI r)) = rowsI (im.map natI) := rowsC_I im
    obtain ⟨r5, ⟨x5, a5, h5, rfl, ha5, -, -, -⟩, hr5⟩ := hnx a1 h1 ha1 30
    repeat (first | ((first | refine opt_some (getC_rows rfl rfl (by omega)) ?_ | refine opt_some (by dsimp only; exact getC_lent rfl rfl (by omega)) ?_ | refine opt_some rfl ?_ | refine ⟨_, (by simp only [nf, nl, nm, en, ints, setC_setC, Nat.reduceAdd, Nat.reduceMul]; exact rfl), ?_⟩ | refine ⟨_, pickT rfl, ?_⟩ | refine ⟨_, rfl, ?_⟩ | refine iteP_true rfl ?_ | refine iteP_false rfl ?_ | refine iteP_true ‹_› ?_ | refine iteP_false ‹_› ?_ | refine andK ?_ | refine andA ?_ | refine andT ?_); conv => whnf))
    (refine ⟨_, hr5, ?_⟩; conv => whnf)
    repeat' (first | ((first | refine opt_some (getC_rows rfl rfl (by omega)) ?_ | refine opt_some (by dsimp only; exact getC_lent rfl rfl (by omega)) ?_ | refine opt_some rfl ?_ | refine ⟨_, (by simp only [nf, nl, nm, en, ints, setC_setC, Nat.reduceAdd, Nat.reduceMul]; exact rfl), ?_⟩ | refine ⟨_, pickT rfl, ?_⟩ | refine ⟨_, rfl, ?_⟩ | refine iteP_true rfl ?_ | refine iteP_false rfl ?_ | refine iteP_true ‹_› ?_ | refine iteP_false ‹_› ?_ | refine andK ?_ | refine andA ?_ | refine andT ?_); conv => whnf) | (refine iteP_intro (fun hb => ?_) (fun hb => ?_) <;> (conv => whnf)))
    · refine ⟨(im ++ [[]]).map natI, a5, h5, ?_, ha5, rws_of (him.snoc (by simp) (by simp)) (by rw [List.length_append, List.length_singleton]; omega)⟩
      rw [← rowsC_I, ← rowsC_raw]
      rfl
    · have hne : 0 < im.length := by have := leT hb; omega
      have hg0 : getC [Cell.sl false 1 im.length (List.map (fun r => Cell.sl false 1 (natI r).length (List.map i64 (natI r))) im)] 0 (some (Int.toNat 0 * 1)) = some (ints (natI im[0])) := by
        show (im.map _)[0]? = _
        rw [List.getElem?_map, List.getElem?_eq_getElem hne]
        rfl
      have hwl0 := (him im[0] (List.getElem_mem hne)).1
      have hwn0 := natI_length im[0]
      refine optG8 hg0 ?_
      conv => whnf
      repeat' (first | ((first | refine opt_some (getC_rows rfl rfl (by omega)) ?_ | refine opt_some (by dsimp only; exact getC_lent rfl rfl (by omega)) ?_ | refine opt_some rfl ?_ | refine ⟨_, (by simp only [nf, nl, nm, en, ints, setC_setC, Nat.reduceAdd, Nat.reduceMul]; exact rfl), ?_⟩ | refine ⟨_, pickT rfl, ?_⟩ | refine ⟨_, rfl, ?_⟩ | refine iteP_true rfl ?_ | refine iteP_false rfl ?_ | refine iteP_true ‹_› ?_ | refine iteP_false ‹_› ?_ | refine andK ?_ | refine andA ?_ | refine andT ?_); conv => whnf) | (refine iteP_intro (fun hb => ?_) (fun hb => ?_) <;> (conv => whnf)))
      refine ⟨((im.map natI).set 0 (natI im[0] ++ [(ds.length : Int)])), a5, h5, ?_, ha5, ?_⟩
      · have hsp : splice ((List.map (fun r => Cell.sl false 1 (natI r).length (List.map i64 (natI r))) im).set (Int.toNat 0 * 1) Cell.hole) (Int.toNat 0 * 1) [Cell.sl false 1 ((natI im[0]).length + 1) (List.map i64 (natI im[0]) ++ [Cell.c (Value.int IntKind.i64 ds.length)])] = ((im.map natI).set 0 (natI im[0] ++ [(ds.length : Int)])).map ints := by
          rw [splice_set (by rw [List.length_set, List.length_map]; exact hne), List.set_set, List.map_set, List.map_map, ints_snoc]
          rfl
        have hln : im.length = ((im.map natI).set 0 (natI im[0] ++ [(ds.length : Int)])).length := by rw [List.length_set, List.length_map]
        unfold rowsI
        rw [← hsp, ← hln]
        rfl
      · refine ⟨by rw [List.length_set, List.length_map]; omega, fun r hr => ?_⟩
        rcases List.mem_or_eq_of_mem_set hr with h' | rfl
        · exact hrw.2 r h'
        · rw [List.length_append, natI_length, List.length_singleton]
          have := (him _ (List.getElem_mem hne)).1
          omega
    · exact ⟨im.map natI, a5, h5, by rw [← rowsC_I]; rfl, ha5, hrw⟩
    · have hne : 0 < im.length := by have := leT hb; omega
      obtain ⟨r6, ⟨x6, a6, h6, rfl, ha6, hx60, -, hx61⟩, hr6⟩ := hnx a5 h5 ha5 im.length
      have hx61 := hx61 (by omega)
      obtain ⟨p, rfl⟩ : ∃ p : Nat, x6 = p := ⟨x6.toNat, by omega⟩
      (refine ⟨_, hr6, ?_⟩; conv => whnf)
      obtain ⟨r7, ⟨u, a7, h7, rfl, ha7, hu, hul⟩, hr7⟩ := hdr a6 h6 ha6 most (by omega)
      repeat' (first | ((first | refine opt_some (getC_rows rfl rfl (by omega)) ?_ | refine opt_some (by dsimp only; exact getC_lent rfl rfl (by omega)) ?_ | refine opt_some rfl ?_ | refine ⟨_, (by simp only [nf, nl, nm, en, ints, setC_setC, Nat.reduceAdd, Nat.reduceMul]; exact rfl), ?_⟩ | refine ⟨_, pickT rfl, ?_⟩ | refine ⟨_, rfl, ?_⟩ | refine iteP_true rfl ?_ | refine iteP_false rfl ?_ | refine iteP_true ‹_› ?_ | refine iteP_false ‹_› ?_ | refine andK ?_ | refine andA ?_ | refine andT ?_); conv => whnf) | (refine iteP_intro (fun hb => ?_) (fun hb => ?_) <;> (conv => whnf)))
      (refine ⟨_, hr7, ?_⟩; conv => whnf)
      repeat' (first | ((first | refine opt_some (getC_rows rfl rfl (by omega)) ?_ | refine opt_some (by dsimp only; exact getC_lent rfl rfl (by omega)) ?_ | refine opt_some rfl ?_ | refine ⟨_, (by simp only [nf, nl, nm, en, ints, setC_setC, Nat.reduceAdd, Nat.reduceMul]; exact rfl), ?_⟩ | refine ⟨_, pickT rfl, ?_⟩ | refine ⟨_, rfl, ?_⟩ | refine iteP_true rfl ?_ | refine iteP_false rfl ?_ | refine iteP_true ‹_› ?_ | refine iteP_false ‹_› ?_ | refine andK ?_ | refine andA ?_ | refine andT ?_); conv => whnf) | (refine iteP_intro (fun hb => ?_) (fun hb => ?_) <;> (conv => whnf)))
      refine ⟨(im.set p u).map natI, a7, h7, ?_, ha7, ?_⟩
      · have hsp : splice (List.map (fun r => Cell.sl false 1 (natI r).length (List.map i64 (natI r))) im) ((p : Int).toNat * 1) [Cell.sl false 1 (natI u).length (List.map i64 (natI u))] = ((im.set p u).map natI).map ints := by
          rw [Int.toNat_natCast, Nat.mul_one, splice_set (by rw [List.length_map]; omega), List.map_map, List.map_set]
          rfl
        have hln : im.length = ((im.set p u).map natI).length := by rw [List.length_map, List.length_set]
        unfold rowsI
        rw [← hsp, ← hln]
        rfl
      · refine rws_of (n := ds.length) (fun w hw => ?_) (by rw [List.length_set]; omega)
        rcases List.mem_or_eq_of_mem_set hw with h' | rfl
        · exact him w h'
        · exact ⟨by omega, hu⟩
    · exact ⟨im.map natI, a5, h5, by rw [← rowsC_I]; rfl, ha5, hrw⟩
    · exact ⟨im.map natI, a5, h5, by rw [← rowsC_I]; rfl, ha5, hrw⟩
set_option maxHeartbeats 4000000 in
set_option maxRecDepth 100000 in
theorem three8_ex (bs : List Int) (hs : Src bs) (let1 : Nat) (hlet : let1 ≤ 8) (most : Nat) (hmost : most ≤ 20) : ∃ r, (∃ (ms : List Nat) (m : Int) (es : List Int) (rs : List (List Int)) (D : Cell) (a h : Int), r = ⟨.tup [(false, [srcC bs a h]), (true, [i64 ms.length, .shd (ints (natI ms))]), (true, [i64 m, D]), (false, [rowsI rs])], []⟩ ∧ Alpha ms ∧ ms.length ≤ 8 ∧ At0 bs a ∧ es.length ≤ 9 ∧ Rws rs ∧ (D = ints es ∨ D = .shd (ints es))) ∧ Ret Tryd.prog G0 66 [⟨.ro, .one (byC bs)⟩, ⟨.ro, .one (i64 let1)⟩, ⟨.ro, .one (i64 most)⟩] r := by
  obtain ⟨r0, ⟨h0, rfl⟩, hr0⟩ := l01From_ex bs hs
  have ha0 : At0 bs 0 := ⟨by omega, by omega⟩
  obtain ⟨r1, ⟨ms, a1, h1, rfl, ha1, hA, hl⟩, hr1⟩ := draw2_ex bs hs 0 h0 ha0 let1 hlet
  obtain ⟨r2, ⟨ks, a2, h2, rfl, ha2, hB, hk⟩, hr2⟩ := draw2_ex bs hs a1 h1 ha1 let1 hlet
  obtain ⟨r3, ⟨rs, a3, h3, rfl, ha3, hR⟩, hr3⟩ := draw8_ex bs hs a2 h2 ha2 ms ks hA hl hB hk most hmost
  obtain ⟨r4, ⟨x4, a4, h4, rfl, ha4, -, -, -⟩, hr4⟩ := next_ex bs hs a3 h3 24 ha3
  obtain ⟨r5, ⟨n5, ds5, a5, h5, rfl, ha5, hd5⟩, hr5⟩ := spoil2_ex bs hs a4 h4 ha4 let1 hlet
  have hkn := natI_length ks
  unfold srcC byC at *
  (refine rete_of_den (E := en 37 [] (fun _ => []) (fun _ => [])) tt_ok mixed Tryd.func66 rfl rfl rfl rfl ?_; refine ⟨by simp, ?_⟩)
  repeat' (first | ((first | refine opt_some (getC_rows rfl rfl (by omega)) ?_ | refine opt_some (by dsimp only; exact getC_lent rfl rfl (by omega)) ?_ | refine opt_some rfl ?_ | refine ⟨_, (by simp only [nf, nl, nm, en, ints, setC_setC, Nat.reduceAdd, Nat.reduceMul]; exact rfl), ?_⟩ | refine ⟨_, pickT rfl, ?_⟩ | refine ⟨_, rfl, ?_⟩ | refine iteP_true rfl ?_ | refine iteP_false rfl ?_ | refine iteP_true ‹_› ?_ | refine iteP_false ‹_› ?_ | refine andK ?_ | refine andA ?_ | refine andT ?_); conv => whnf) | (refine iteP_intro (fun hb => ?_) (fun hb => ?_) <;> (conv => whnf)))
  (refine ⟨_, hr0, ?_⟩; conv => whnf)
  repeat' (first | ((first | refine opt_some (getC_rows rfl rfl (by omega)) ?_ | refine opt_some (by dsimp only; exact getC_lent rfl rfl (by omega)) ?_ | refine opt_some rfl ?_ | refine ⟨_, (by simp only [nf, nl, nm, en, ints, setC_setC, Nat.reduceAdd, Nat.reduceMul]; exact rfl), ?_⟩ | refine ⟨_, pickT rfl, ?_⟩ | refine ⟨_, rfl, ?_⟩ | refine iteP_true rfl ?_ | refine iteP_false rfl ?_ | refine iteP_true ‹_› ?_ | refine iteP_false ‹_› ?_ | refine andK ?_ | refine andA ?_ | refine andT ?_); conv => whnf) | (refine iteP_intro (fun hb => ?_) (fun hb => ?_) <;> (conv => whnf)))
  (refine ⟨_, hr1, ?_⟩; conv => whnf)
  repeat' (first | ((first | refine opt_some (getC_rows rfl rfl (by omega)) ?_ | refine opt_some (by dsimp only; exact getC_lent rfl rfl (by omega)) ?_ | refine opt_some rfl ?_ | refine ⟨_, (by simp only [nf, nl, nm, en, ints, setC_setC, Nat.reduceAdd, Nat.reduceMul]; exact rfl), ?_⟩ | refine ⟨_, pickT rfl, ?_⟩ | refine ⟨_, rfl, ?_⟩ | refine iteP_true rfl ?_ | refine iteP_false rfl ?_ | refine iteP_true ‹_› ?_ | refine iteP_false ‹_› ?_ | refine andK ?_ | refine andA ?_ | refine andT ?_); conv => whnf) | (refine iteP_intro (fun hb => ?_) (fun hb => ?_) <;> (conv => whnf)))
  (refine ⟨_, hr2, ?_⟩; conv => whnf)
  repeat' (first | ((first | refine opt_some (getC_rows rfl rfl (by omega)) ?_ | refine opt_some (by dsimp only; exact getC_lent rfl rfl (by omega)) ?_ | refine opt_some rfl ?_ | refine ⟨_, (by simp only [nf, nl, nm, en, ints, setC_setC, Nat.reduceAdd, Nat.reduceMul]; exact rfl), ?_⟩ | refine ⟨_, pickT rfl, ?_⟩ | refine ⟨_, rfl, ?_⟩ | refine iteP_true rfl ?_ | refine iteP_false rfl ?_ | refine iteP_true ‹_› ?_ | refine iteP_false ‹_› ?_ | refine andK ?_ | refine andA ?_ | refine andT ?_); conv => whnf) | (refine iteP_intro (fun hb => ?_) (fun hb => ?_) <;> (conv => whnf)))
  (refine ⟨_, hr3, ?_⟩; conv => whnf)
  repeat' (first | ((first | refine opt_some (getC_rows rfl rfl (by omega)) ?_ | refine opt_some (by dsimp only; exact getC_lent rfl rfl (by omega)) ?_ | refine opt_some rfl ?_ | refine ⟨_, (by simp only [nf, nl, nm, en, ints, setC_setC, Nat.reduceAdd, Nat.reduceMul]; exact rfl), ?_⟩ | refine ⟨_, pickT rfl, ?_⟩ | refine ⟨_, rfl, ?_⟩ | refine iteP_true rfl ?_ | refine iteP_false rfl ?_ | refine iteP_true ‹_› ?_ | refine iteP_false ‹_› ?_ | refine andK ?_ | refine andA ?_ | refine andT ?_); conv => whnf) | (refine iteP_intro (fun hb => ?_) (fun hb => ?_) <;> (conv => whnf)))
  (refine ⟨_, hr4, ?_⟩; conv => whnf)
  repeat' (first | ((first | refine opt_some (getC_rows rfl rfl (by omega)) ?_ | refine opt_some (by dsimp only; exact getC_lent rfl rfl (by omega)) ?_ | refine opt_some rfl ?_ | refine ⟨_, (by simp only [nf, nl, nm, en, ints, setC_setC, Nat.reduceAdd, Nat.reduceMul]; exact rfl), ?_⟩ | refine ⟨_, pickT rfl, ?_⟩ | refine ⟨_, rfl, ?_⟩ | refine iteP_true rfl ?_ | refine iteP_false rfl ?_ | refine iteP_true ‹_› ?_ | refine iteP_false ‹_› ?_ | refine andK ?_ | refine andA ?_ | refine andT ?_); conv => whnf) | (refine iteP_intro (fun hb => ?_) (fun hb => ?_) <;> (conv => whnf)))
  · (refine ⟨_, hr5, ?_⟩; conv => whnf)
    repeat' (first | ((first | refine opt_some (getC_rows rfl rfl (by omega)) ?_ | refine opt_some (by dsimp only; exact getC_lent rfl rfl (by omega)) ?_ | refine opt_some rfl ?_ | refine ⟨_, (by simp only [nf, nl, nm, en, ints, setC_setC, Nat.reduceAdd, Nat.reduceMul]; exact rfl), ?_⟩ | refine ⟨_, pickT rfl, ?_⟩ | refine ⟨_, rfl, ?_⟩ | refine iteP_true rfl ?_ | refine iteP_false rfl ?_ | refine iteP_true ‹_› ?_ | refine iteP_false ‹_› ?_ | refine andK ?_ | refine andA ?_ | refine andT ?_); conv => whnf) | (refine iteP_intro (fun hb => ?_) (fun hb => ?_) <;> (conv => whnf)))
    exact ⟨ms, n5, ds5, rs, _, a5, h5, rfl, hA, hl, ha5, hd5, hR, .inl rfl⟩
  · exact ⟨ms, ks.length, natI ks, rs, _, a4, h4, rfl, hA, hl, ha4, by omega, hR, .inr rfl⟩
end Go.Proofs.YtpopepcmfanegaaDoor
