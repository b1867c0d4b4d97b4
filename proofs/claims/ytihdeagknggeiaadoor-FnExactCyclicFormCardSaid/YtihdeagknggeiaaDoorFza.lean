import Derived.Test.YtihdeagknggeiaaDoorFy
set_option autoImplicit false
set_option linter.unusedSimpArgs false
set_option linter.unusedVariables false
namespace Go.Proofs.YtihdeagknggeiaaDoor
open Go.Den
def cmpF : Cell := .fn (.func 123) []
/-- No two neighbours are equal. -/
def Apart (rs : List (List Int)) : Prop := ∀ i : Nat, ∀ h : i + 1 < rs.length, rs[i + 1] ≠ rs[i]
theorem apart_nodup {rs : List (List Int)} (h : rs.Nodup) : Apart rs := fun i hi e => by
  have := List.pairwise_iff_getElem.1 h i (i + 1) (by omega) hi (by omega)
  exact this e.symm
def lay122_ren : Go.Shelf.Ren := ⟨fun | 6 => 122 | 15 => 143 | 14 => 142 | 28 => 158 | 29 => 159 | 20 => 150 | 21 => 151 | 22 => 152 | 23 => 153 | 24 => 154 | 25 => 155 | 26 => 156 | 27 => 157 | 46 => 164 | 47 => 165 | 48 => 166 | 49 => 167 | 50 => 168 | 57 => 178 | n => n, fun | 22 => 42 | 24 => 22 | 25 => 122 | 3 => 3 | 39 => 129 | 0 => 0 | 53 => 160 | 55 => 102 | 4 => 4 | 46 => 153 | 45 => 152 | 50 => 157 | 5 => 5 | 9 => 9 | 66 => 164 | 70 => 168 | 76 => 175 | 77 => 176 | n => n, fun | n => n⟩
theorem lay122 : Go.Proofs.SlLaysF.n6 Tryd.prog lay122_ren := {
  mixed := by kernel_rfl,
  f6 := ⟨Tryd.f122.name, by decide, Tryd.func122.trans (congrArg some (by kernel_rfl))⟩,
  f14 := ⟨Tryd.f142.name, by decide, Tryd.func142.trans (congrArg some (by kernel_rfl))⟩,
  f15 := Tryd.func143.trans (congrArg some (by kernel_rfl)),
  f20 := ⟨Tryd.f150.name, by decide, Tryd.func150.trans (congrArg some (by kernel_rfl))⟩,
  f21 := ⟨Tryd.f151.name, by decide, Tryd.func151.trans (congrArg some (by kernel_rfl))⟩,
  f22 := ⟨Tryd.f152.name, by decide, Tryd.func152.trans (congrArg some (by kernel_rfl))⟩,
  f23 := ⟨Tryd.f153.name, by decide, Tryd.func153.trans (congrArg some (by kernel_rfl))⟩,
  f24 := ⟨Tryd.f154.name, by decide, Tryd.func154.trans (congrArg some (by kernel_rfl))⟩,
  f25 := ⟨Tryd.f155.name, by decide, Tryd.func155.trans (congrArg some (by kernel_rfl))⟩,
  f26 := ⟨Tryd.f156.name, by decide, Tryd.func156.trans (congrArg some (by kernel_rfl))⟩,
  f27 := ⟨Tryd.f157.name, by decide, Tryd.func157.trans (congrArg some (by kernel_rfl))⟩,
  f28 := Tryd.func158.trans (congrArg some (by kernel_rfl)),
  f29 := Tryd.func159.trans (congrArg some (by kernel_rfl)),
  f46 := ⟨Tryd.f164.name, by decide, Tryd.func164.trans (congrArg some (by kernel_rfl))⟩,
  f47 := Tryd.func165.trans (congrArg some (by kernel_rfl)),
  f48 := Tryd.func166.trans (congrArg some (by kernel_rfl)),
  f49 := ⟨Tryd.f167.name, by decide, Tryd.func167.trans (congrArg some (by kernel_rfl))⟩,
  f50 := ⟨Tryd.f168.name, by decide, Tryd.func168.trans (congrArg some (by kernel_rfl))⟩,
  f57 := ⟨Tryd.f178.name, by decide, Tryd.func178.trans (congrArg some (by kernel_rfl))⟩,
  t0 := Tryd.underlying0,
  a0 := Tryd.isAgg0,
  z0 := Tryd.sizeOf0,
  v0 := Tryd.zeroValue0,
  t3 := Tryd.underlying3,
  a3 := Tryd.isAgg3,
  z3 := Tryd.sizeOf3,
  v3 := Tryd.zeroValue3,
  t4 := Tryd.underlying4,
  a4 := Tryd.isAgg4,
  z4 := Tryd.sizeOf4,
  v4 := Tryd.zeroValue4,
  t5 := Tryd.underlying5,
  a5 := Tryd.isAgg5,
  z5 := Tryd.sizeOf5,
  v5 := Tryd.zeroValue5,
  t9 := Tryd.underlying9,
  a9 := Tryd.isAgg9,
  z9 := Tryd.sizeOf9,
  v9 := Tryd.zeroValue9,
  t22 := Tryd.underlying42,
  a22 := Tryd.isAgg42,
  z22 := Tryd.sizeOf42,
  v22 := Tryd.zeroValue42,
  a24 := Tryd.isAgg22,
  z24 := Tryd.sizeOf22,
  t25 := Tryd.underlying122,
  a25 := Tryd.isAgg122,
  z25 := Tryd.sizeOf122,
  v25 := Tryd.zeroValue122,
  t39 := Tryd.underlying129,
  a39 := Tryd.isAgg129,
  z39 := Tryd.sizeOf129,
  v39 := Tryd.zeroValue129,
  t45 := Tryd.underlying152,
  a45 := Tryd.isAgg152,
  z45 := Tryd.sizeOf152,
  v45 := Tryd.zeroValue152,
  t46 := Tryd.underlying153,
  a46 := Tryd.isAgg153,
  z46 := Tryd.sizeOf153,
  v46 := Tryd.zeroValue153,
  t50 := Tryd.underlying157,
  a50 := Tryd.isAgg157,
  z50 := Tryd.sizeOf157,
  v50 := Tryd.zeroValue157,
  t53 := Tryd.underlying160,
  a53 := Tryd.isAgg160,
  z53 := Tryd.sizeOf160,
  v53 := Tryd.zeroValue160,
  t55 := Tryd.underlying102,
  a55 := Tryd.isAgg102,
  z55 := Tryd.sizeOf102,
  v55 := Tryd.zeroValue102,
  t66 := Tryd.underlying164,
  a66 := Tryd.isAgg164,
  z66 := Tryd.sizeOf164,
  v66 := Tryd.zeroValue164,
  t70 := Tryd.underlying168,
  a70 := Tryd.isAgg168,
  z70 := Tryd.sizeOf168,
  v70 := Tryd.zeroValue168,
  t76 := Tryd.underlying175,
  a76 := Tryd.isAgg175,
  z76 := Tryd.sizeOf175,
  v76 := Tryd.zeroValue175,
  t77 := Tryd.underlying176,
  a77 := Tryd.isAgg176,
  z77 := Tryd.sizeOf176,
  v77 := Tryd.zeroValue176
}

set_option maxHeartbeats 4000000 in
set_option maxRecDepth 100000 in
theorem sortF_ret (rows : List (List Int)) (hx : ∀ r ∈ rows, r.length < 2 ^ 62) (hn : rows.length < 2 ^ 62) : Ret Tryd.prog G0 122 [⟨.mu, .one (.sl false 1 rows.length (rows.map ints))⟩, ⟨.ro, .one cmpF⟩] ⟨.tup [], [.one (.sl false 1 rows.length ((insL rows).map ints))]⟩ :=
  sortOwn lay122 { lay122 with } (Go.Proofs.enters_of Tryd.func123 (by kernel_rfl) rfl) (Go.Proofs.enters_of Tryd.func122 (by kernel_rfl) rfl) ints cmpL swoR rows (insL rows) (fun _ _ => rfl) (fun a ha b _ => compare_ret a b (hx a ha)) (fun zs hp hs => by rw [insL_unique hp hs]) hn
set_option maxHeartbeats 4000000 in
set_option maxRecDepth 100000 in
theorem compactO_ret (rs : List (List Int)) (hr : rs.length ≤ 2 ^ 20) (hx : ∀ r ∈ rs, r.length < 2 ^ 62) (hn : Apart rs) : Ret Tryd.prog G0 124 [⟨.mv, .one (.sl false 1 rs.length (rs.map ints))⟩, ⟨.ro, .one (.fn (.func 125) [])⟩] ⟨.one (.sl false 1 rs.length (rs.map ints)), []⟩ := by
  (refine ret_of_den (E := en 66 [] (fun _ => [(0, 0), (5, 0), (1, 1)]) (fun _ => [])) tt_ok mixed Tryd.func124 rfl rfl rfl rfl ?_; refine ⟨by simp, ?_⟩)
  repeat' (first | ((first | refine opt_some (getC_rows rfl rfl (by omega)) ?_ | refine opt_some (by dsimp only; exact getC_lent rfl rfl (by omega)) ?_ | refine opt_some rfl ?_ | refine ⟨_, (by simp only [nf, nl, nm, en, ints, setC_setC, Nat.reduceAdd, Nat.reduceMul]; exact rfl), ?_⟩ | refine ⟨_, pickT rfl, ?_⟩ | refine ⟨_, rfl, ?_⟩ | refine iteP_true rfl ?_ | refine iteP_false rfl ?_ | refine iteP_true ‹_› ?_ | refine iteP_false ‹_› ?_ | refine andK ?_ | refine andA ?_ | refine andT ?_); conv => whnf) | (refine iteP_intro (fun hb => ?_) (fun hb => ?_) <;> (conv => whnf)))
  · rfl
  refine ⟨fun k vs => ∃ i : Nat, 1 ≤ i ∧ i ≤ rs.length ∧ vs = [.one (.sl false 1 rs.length (rs.map ints)), .one (i64 i), .one (.shd (.fn (.func 125) []))] ∧ k = rs.length - i, rfl, ⟨_, 1, by omega, by have := leF hb; omega, rfl, rfl⟩, ?_⟩
  rintro k vs ⟨i, hi1, hi, rfl, rfl⟩
  repeat (first | ((first | refine opt_some (getC_rows rfl rfl (by omega)) ?_ | refine opt_some (by dsimp only; exact getC_lent rfl rfl (by omega)) ?_ | refine opt_some rfl ?_ | refine ⟨_, (by simp only [nf, nl, nm, en, ints, setC_setC, Nat.reduceAdd, Nat.reduceMul]; exact rfl), ?_⟩ | refine ⟨_, pickT rfl, ?_⟩ | refine ⟨_, rfl, ?_⟩ | refine iteP_true rfl ?_ | refine iteP_false rfl ?_ | refine iteP_true ‹_› ?_ | refine iteP_false ‹_› ?_ | refine andK ?_ | refine andA ?_ | refine andT ?_); conv => whnf))
  refine iteP_intro (fun hb => ?_) (fun hb => ?_) <;> (conv => whnf)
  · have hi' : i < rs.length := by have := leT hb; omega
    have hw : IntKind.i64.wrap ((i : Int) - 1) = ((i - 1 : Nat) : Int) := wrap_pred hi1 (by omega)
    have hne : rs[i] ≠ rs[i - 1] := by
      obtain ⟨j, rfl⟩ : ∃ j, i = j + 1 := ⟨i - 1, by omega⟩
      exact hn j hi'
    have hE := equal_ret rs[i] rs[i - 1] (hx _ (List.getElem_mem hi'))
    rw [decide_eq_false hne] at hE
    repeat (first | ((first | refine opt_some (getC_rows rfl rfl (by omega)) ?_ | refine opt_some (by dsimp only; exact getC_lent rfl rfl (by omega)) ?_ | refine opt_some rfl ?_ | refine ⟨_, (by simp only [nf, nl, nm, en, ints, setC_setC, Nat.reduceAdd, Nat.reduceMul, hw]; exact rfl), ?_⟩ | refine ⟨_, pickT rfl, ?_⟩ | refine ⟨_, rfl, ?_⟩ | refine iteP_true rfl ?_ | refine iteP_false rfl ?_ | refine iteP_true ‹_› ?_ | refine iteP_false ‹_› ?_ | refine andK ?_ | refine andA ?_ | refine andT ?_); conv => whnf))
    (refine ⟨_, hE, ?_⟩; conv => whnf)
    repeat (first | ((first | refine opt_some (getC_rows rfl rfl (by omega)) ?_ | refine opt_some (by dsimp only; exact getC_lent rfl rfl (by omega)) ?_ | refine opt_some rfl ?_ | refine ⟨_, (by simp only [nf, nl, nm, en, ints, setC_setC, Nat.reduceAdd, Nat.reduceMul]; exact rfl), ?_⟩ | refine ⟨_, pickT rfl, ?_⟩ | refine ⟨_, rfl, ?_⟩ | refine iteP_true rfl ?_ | refine iteP_false rfl ?_ | refine iteP_true ‹_› ?_ | refine iteP_false ‹_› ?_ | refine andK ?_ | refine andA ?_ | refine andT ?_); conv => whnf))
    refine ⟨_, ?_, i + 1, by omega, hi', by rw [wrap_succ (by omega)]; rfl, rfl⟩
    omega
  · repeat' (first | ((first | refine opt_some (getC_rows rfl rfl (by omega)) ?_ | refine opt_some (by dsimp only; exact getC_lent rfl rfl (by omega)) ?_ | refine opt_some rfl ?_ | refine ⟨_, (by simp only [nf, nl, nm, en, ints, setC_setC, Nat.reduceAdd, Nat.reduceMul]; exact rfl), ?_⟩ | refine ⟨_, pickT rfl, ?_⟩ | refine ⟨_, rfl, ?_⟩ | refine iteP_true rfl ?_ | refine iteP_false rfl ?_ | refine iteP_true ‹_› ?_ | refine iteP_false ‹_› ?_ | refine andK ?_ | refine andA ?_ | refine andT ?_); conv => whnf) | (refine iteP_intro (fun hb => ?_) (fun hb => ?_) <;> (conv => whnf)))
    rfl
set_option maxHeartbeats 4000000 in
set_option maxRecDepth 100000 in
theorem sortedWords_ret (rows : List (List Int)) (hr : rows.length ≤ 2 ^ 20) (hx : ∀ r ∈ rows, r.length < 2 ^ 62) (hn : rows.Nodup) : Ret Tryd.prog G0 83 [⟨.mv, .one (.sl false 1 rows.length (rows.map ints))⟩] ⟨.one (.sl false 1 rows.length ((insL rows).map ints)), []⟩ := by
  have hS := sortF_ret rows hx (by omega)
  have hil := insL_len rows
  have hC := compactO_ret (insL rows) (by omega) (fun x h => hx x ((insL_perm rows).mem_iff.1 h)) (apart_nodup ((insL_perm rows).nodup_iff.2 hn))
  unfold cmpF at hS
  rw [hil] at hC
  (refine ret_of_den (E := en 7 [] (fun _ => []) (fun _ => [])) tt_ok mixed Tryd.func83 rfl rfl rfl rfl ?_; refine ⟨by simp, ?_⟩)
  repeat' (first | ((first | refine opt_some (getC_rows rfl rfl (by omega)) ?_ | refine opt_some (by dsimp only; exact getC_lent rfl rfl (by omega)) ?_ | refine opt_some rfl ?_ | refine ⟨_, (by simp only [nf, nl, nm, en, ints, setC_setC, Nat.reduceAdd, Nat.reduceMul]; exact rfl), ?_⟩ | refine ⟨_, pickT rfl, ?_⟩ | refine ⟨_, rfl, ?_⟩ | refine iteP_true rfl ?_ | refine iteP_false rfl ?_ | refine iteP_true ‹_› ?_ | refine iteP_false ‹_› ?_ | refine andK ?_ | refine andA ?_ | refine andT ?_); conv => whnf) | (refine iteP_intro (fun hb => ?_) (fun hb => ?_) <;> (conv => whnf)))
  (refine ⟨_, hS, ?_⟩; conv => whnf)
  repeat' (first | ((first | refine opt_some (getC_rows rfl rfl (by omega)) ?_ | refine opt_some (by dsimp only; exact getC_lent rfl rfl (by omega)) ?_ | refine opt_some rfl ?_ | refine ⟨_, (by simp only [nf, nl, nm, en, ints, setC_setC, Nat.reduceAdd, Nat.reduceMul]; exact rfl), ?_⟩ | refine ⟨_, pickT rfl, ?_⟩ | refine ⟨_, rfl, ?_⟩ | refine iteP_true rfl ?_ | refine iteP_false rfl ?_ | refine iteP_true ‹_› ?_ | refine iteP_false ‹_› ?_ | refine andK ?_ | refine andA ?_ | refine andT ?_); conv => whnf) | (refine iteP_intro (fun hb => ?_) (fun hb => ?_) <;> (conv => whnf)))
  (refine ⟨_, hC, ?_⟩; conv => whnf)
  repeat' (first | ((first | refine opt_some (getC_rows rfl rfl (by omega)) ?_ | refine opt_some (by dsimp only; exact getC_lent rfl rfl (by omega)) ?_ | refine opt_some rfl ?_ | refine ⟨_, (by simp only [nf, nl, nm, en, ints, setC_setC, Nat.reduceAdd, Nat.reduceMul]; exact rfl), ?_⟩ | refine ⟨_, pickT rfl, ?_⟩ | refine ⟨_, rfl, ?_⟩ | refine iteP_true rfl ?_ | refine iteP_false rfl ?_ | refine iteP_true ‹_› ?_ | refine iteP_false ‹_› ?_ | refine andK ?_ | refine andA ?_ | refine andT ?_); conv => whnf) | (refine iteP_intro (fun hb => ?_) (fun hb => ?_) <;> (conv => whnf)))
  rfl
end Go.Proofs.YtihdeagknggeiaaDoor
