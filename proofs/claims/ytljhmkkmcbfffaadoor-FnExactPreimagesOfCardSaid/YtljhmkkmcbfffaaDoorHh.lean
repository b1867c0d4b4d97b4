/- PreimagesOf returns what the reference returns, for all arguments that the statement lets in; no further conditions. -/
import Derived.Test.YtljhmkkmcbfffaaDoorCards
import Derived.Test.YtljhmkkmcbfffaaDoorTie
import Derived.Test.YtljhmkkmcbfffaaDoorFzc
import Derived.Test.YtljhmkkmcbfffaaDoorDf
set_option linter.unusedSimpArgs false
set_option linter.unusedVariables false
namespace Go.Proofs.YtljhmkkmcbfffaaDoor.fnExactPreimagesOf
open Go.ChangeShapes Go.WideShapes Go.ChangeAt Go.RowKit Go.Den
open Go.ChangeMaps (open_string)
theorem own : ownKnob Tryd.prog.godebug = none := by kernel_rfl
theorem laidOut : laidOutB Tryd.prog = true := by kernel_rfl
theorem cells24 : Tryd.prog.cellsOf 24 = 2 := by kernel_rfl
theorem cells2 : Tryd.prog.cellsOf 2 = 1 := by kernel_rfl
theorem bytes2 : Tryd.prog.bytesOf 2 = 8 := by kernel_rfl
theorem cells22 : Tryd.prog.cellsOf 22 = 1 := by kernel_rfl
theorem bpos2 : 1 ≤ Tryd.prog.bytesOf 2 := Nat.le_of_ble_eq_true (by kernel_rfl)
theorem bpos22 : 1 ≤ Tryd.prog.bytesOf 22 := Nat.le_of_ble_eq_true (by kernel_rfl)
theorem gTab : Tryd.prog.globalNamed "math/bits.deBruijn64tab" = some 0 := by kernel_rfl
theorem gTabType : (Tryd.prog.globals[0]?).map (·.type) = some 145 := by kernel_rfl
theorem cellsTab : Tryd.prog.cellsOf 145 = 64 := by kernel_rfl
theorem cellsTabE : Tryd.prog.cellsOf 5 = 1 := by kernel_rfl
def tabI : List Int := Lib.deBruijn64tab.map fun n : Nat => (n : Int)
theorem table {W : World} (h : laidMetH Tryd.prog [("math/bits.deBruijn64tab", Rows.laid_math_bits_deBruijn64tab)] W) : Lib.TabIs Tryd.prog W "math/bits.deBruijn64tab" .u8 tabI :=
  Lib.tabIs_of_head (rest := []) gTab gTabType Tryd.underlying145 Tryd.underlying5 cellsTabE cellsTab h
theorem glob {W : World} (h : laidMetH Tryd.prog [("math/bits.deBruijn64tab", Rows.laid_math_bits_deBruijn64tab)] W) : Glob G0 W (· < W.heap.size) :=
  glob_tab (table h) gTab fun g vs hv => by
    unfold G0 at hv
    split at hv
    · cases hv
      refine ⟨rfl, ?_⟩
      unfold tabI
      rw [List.map_map]
      rfl
    · cases hv

theorem reads_ok (ts : List TypeId) (h : ts.all (fun t => Tryd.prog.readableRec t && decide (t < Tryd.prog.types.size)) = true) : ∀ t ∈ ts, Tryd.prog.readableRec t = true ∧ t < Tryd.prog.types.size := fun t ht => by
  have := List.all_eq_true.1 h t ht
  simpa using this
set_option maxRecDepth 100000 in
theorem contract (H : Type) (enc : TypeId × Value → H) (W : World) (base : Nat) (args : Array Value) (ds gs : List (DataW H)) (before : List MemPlace)
    (hval : ∀ (j : Nat) t v, Tryd.f12.params[j]? = some t → args[j]? = some v → Value.okWide Tryd.prog W .any base t v)
    (hW : DataW.Whole enc Tryd.prog Tryd.f12.params.toList Rows.fnExactPreimagesOfSpec.vars false W args.toList ds gs before)
    (hsz : (DataW.weightsEach Tryd.prog (Tryd.f12.params.toList ++ Rows.fnExactPreimagesOfSpec.plain.varTypes Tryd.prog) (ds ++ gs)).all (· ≤ reachBytes) = true)
    (hG : Glob G0 W (· < W.heap.size)) :
    Calls Tryd.prog 12 args W fun e W' => ∃ v, e = .returned v ∧ Rows.fnExactPreimagesOfSpec.post enc Tryd.prog Tryd.f12 false true false false W args v W' := by
  have hW' := hW
  obtain ⟨p, q, hA0, hV, rfl, hfz, hnd⟩ := hW
  have hA : DataW.TrodAll enc Tryd.prog W 0 (fun _ => true) true Tryd.f12.params.toList args.toList ds p := hA0
  rw [Tryd.params12] at hA hval hsz
  obtain ⟨v0, vs0, d0, ds0, p0, q0, hargs, rfl, rfl, h0, r0⟩ := trodAll_cons hA
  obtain ⟨v1, vs1, d1, ds1, p1, q1, rfl, rfl, rfl, h1, r1⟩ := trodAll_cons r0
  obtain ⟨v2, vs2, d2, ds2, p2, q2, rfl, rfl, rfl, h2, r2⟩ := trodAll_cons r1
  obtain ⟨v3, vs3, d3, ds3, p3, q3, rfl, rfl, rfl, h3, r3⟩ := trodAll_cons r2
  obtain ⟨rfl, rfl, rfl⟩ := trodAll_nil r3
  obtain rfl : args = #[v0, v1, v2, v3] := by cases args; simp_all
  have hgs : gs = [] := by cases gs with | nil => rfl | cons _ _ => exact hV.elim
  subst hgs
  obtain ⟨n0, o0, sp0, rfl, hsh0⟩ := read_alpha Tryd.underlying24 (by kernel_rfl) cells24 Tryd.underlying2 Tryd.underlying22 Tryd.underlying2 cells2 (hval 0 24 v0 rfl rfl) h0
  obtain ⟨n1, o1, sp1, rfl, hsh1⟩ := read_alpha Tryd.underlying24 (by kernel_rfl) cells24 Tryd.underlying2 Tryd.underlying22 Tryd.underlying2 cells2 (hval 1 24 v1 rfl rfl) h1
  let rd2 : Rd enc Tryd.prog 34 (RIntss H) := Rd.slice Tryd.underlying34 (Rd.slice Tryd.underlying22 (Rd.int Tryd.underlying2) cells2 bpos2) cells22 bpos22
  obtain ⟨a2, rfl, hsh2⟩ := rd2.arg_slice Tryd.underlying34 (hval 2 34 v2 rfl rfl) h2
  obtain ⟨fuel3, hf3⟩ := h3
  obtain ⟨a3, l3, c3, rfl⟩ := okWide_slice Tryd.underlying22 (hval 3 22 v3 rfl rfl)
  obtain ⟨o3, sp3, w3, e3, hd3, hsh3⟩ := read_ints Tryd.underlying22 Tryd.underlying2 cells2 hf3
  simp only at hd3
  subst hd3
  obtain rfl := (List.cons.inj e3).1
  have hl0 := weigh_alpha hsz (j := 0) rfl rfl Tryd.underlying24 Tryd.underlying22 bytes2
  have hl1 := weigh_alpha hsz (j := 1) rfl rfl Tryd.underlying24 Tryd.underlying22 bytes2
  obtain ⟨hr2, hq2⟩ := rd2.arg_big hsz (j := 2) rfl rfl
  have hR2 := intssOf_mem hq2
  replace hr2 : (intssOf a2).length < 2 ^ 47 := by rw [intssOf, List.length_map]; exact hr2
  have hl3 := weigh_ints hsz (j := 3) rfl rfl Tryd.underlying22 bytes2
  refine law_step (tb := 4) laidOut (reads_ok _ (by kernel_rfl)) rfl Tryd.underlying4 rfl hW' (fun _ => ⟨rfl, rfl, rfl⟩) ?_
  refine law_calls Tryd.func12 rfl rfl (lawPre_ret n0 n1 (o0.getD []) (o1.getD []) (intssOf a2) (o3.getD []) (by omega) (by omega) (by omega) hR2 (by omega)) (vs := [_, _, _, _]) hG ⟨[], [], ⟨?_, rfl⟩, ⟨[], [], ⟨?_, rfl⟩, ⟨[], [], ⟨?_, rfl⟩, ⟨[], [], ⟨?_, rfl⟩, rfl, rfl⟩, rfl⟩, rfl⟩, rfl⟩
  · exact hsh0
  · exact hsh1
  · exact (Shs.one (by rw [← intssOf_cell]; exact hsh2) : ShSV W _ (.one (.sl false 1 (intssOf a2).length ((intssOf a2).map ints))) _)
  · exact hsh3
def wit : Array Value := #[.agg #[.int .i64 0, .slice none 0 0], .agg #[.int .i64 0, .slice none 0 0], .slice none 0 0, .slice none 0 0]
noncomputable def laidWorld (os : Os) : World :=
  { World.holding Tryd.prog os ⟨#[], #[], []⟩ with heap := (World.holding Tryd.prog os ⟨#[], #[], []⟩).heap.modify 0 fun
      | .cells _ t frozen => .cells (tabI.map fun n => Value.int .u8 n).toArray t frozen
      | o => o }
theorem laid_met (os : Os) : laidMet Tryd.prog Rows.fnExactPreimagesOfRow.laid ((laidWorld os).forCall (fun _ _ => 0) ⟨#[], wit, []⟩).memory :=
  laidMet_of_run' 8 (by kernel_rfl) (by kernel_rfl)
theorem reads (os : Os) {H : Type} (enc : TypeId × Value → H) : ∃ places, DataW.whole enc Tryd.prog ((laidWorld os).forCall (fun _ _ => 0) ⟨#[], wit, []⟩).memory Tryd.f12.params.toList Rows.fnExactPreimagesOfSpec.vars false wit.toList 8 = some ([.agg [.lit (.int .i64 0), .nil], .agg [.lit (.int .i64 0), .nil], .nil, .nil], [], places) :=
  ⟨[], by kernel_rfl⟩
set_option maxRecDepth 100000 in
theorem lifted (os : Os) (started : os.Started) (H : Type) (enc : TypeId × Value → H) (F : Stop.Interp) :
    ReturnsInHanded {} Tryd.checked os 12 .any ((OpenSpec.ofChange Rows.fnExactPreimagesOfSpec).preRow enc Tryd.prog Tryd.f12 Rows.fnExactPreimagesOfRow.domain false Rows.fnExactPreimagesOfRow.laid) (((OpenSpec.ofChange Rows.fnExactPreimagesOfSpec).at F).post enc Tryd.prog Tryd.f12 false true false false) := by
  obtain ⟨places, hx⟩ := reads os enc
  refine returnsInHanded_of_row (C := Tryd.checked) (s := OpenSpec.ofChange Rows.fnExactPreimagesOfSpec) own started (by kernel_rfl) Tryd.func12
    (witness_row_at (enc := enc) (C := Tryd.checked) false (laidWorld os) wit rfl (by kernel_rfl) (by kernel_rfl) (by kernel_rfl)
      (OpenSpec.preRow_of_cond 8 hx (by kernel_rfl) (fun k hk => by cases hk) (by kernel_rfl) (laid_met os))) ?_
  intro W base args ds gs before hval hW _ _ hsz hL _ _
  exact contract H enc W base args ds gs before hval hW hsz (glob hL)
theorem said : Rows.FnExactPreimagesOfSaid :=
  OpenClaim.holds_of_cond 12 Tryd.f12 rfl rfl rfl rfl rfl rfl rfl ⟨rfl, rfl, rfl, rfl, rfl⟩ rfl rfl rfl rfl rfl (by kernel_rfl) Tryd.func12 (by kernel_rfl)
    (of_decide_eq_true (by kernel_rfl)) (by unfold Func.isWrapper; first | (rw [if_pos (by decide +kernel)]; kernel_rfl) | (rw [if_neg (by decide +kernel)]; exact ⟨rfl, rfl⟩))
    (fun os started H enc _ F => by rw [OpenClaim.pre_eq_preRow]; exact lifted os started H enc F)
theorem plain (f : FuncId) (fn : Func) (hf : Tryd.pinned.checked.prog.funcNamed "loop.example/g01094/laws.FnExactPreimagesOf" = some f) (hfn : Tryd.pinned.checked.prog.funcs[f]? = some fn) :
    false = Tryd.pinned.checked.prog.looks [] ∧ ∀ (j : Nat) t, fn.params[j]? = some t → Tryd.pinned.checked.prog.wantsStandIn t = false := by
  obtain rfl : f = 12 := Option.some.inj ((show Tryd.prog.funcNamed "loop.example/g01094/laws.FnExactPreimagesOf" = some 12 by kernel_rfl).symm.trans hf) |>.symm
  obtain rfl : fn = Tryd.f12 := (Option.some.inj (Tryd.func12.symm.trans hfn)).symm
  refine ⟨by kernel_rfl, fun j t ht => ?_⟩
  rw [Tryd.params12] at ht
  have hall : ([24, 24, 34, 22] : List TypeId).all (fun t => !Tryd.prog.wantsStandIn t) = true := by kernel_rfl
  have := List.all_eq_true.1 hall t (by have := Array.mem_of_getElem? ht; simpa using this)
  rw [Bool.not_eq_true'] at this
  exact this
theorem card : Rows.FnExactPreimagesOfCardSaid :=
  Claim7.holds_tied_plain_at .later [] _ _ _ _ said (fun _ h => by cases h) (by kernel_rfl) (fun _ h => by cases h) fnExactPreimagesOf_row_tie rfl ⟨rfl, rfl⟩ (by kernel_rfl) rfl plain (by kernel_rfl)
end Go.Proofs.YtljhmkkmcbfffaaDoor.fnExactPreimagesOf
