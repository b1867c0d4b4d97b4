/- ApplyRedex returns what the reference returns, for all arguments that the statement lets in; no further conditions. -/
import Derived.Test.YtljhmkkmcbfffaaDoorCards
import Derived.Test.YtljhmkkmcbfffaaDoorTie
import Derived.Test.YtljhmkkmcbfffaaDoorFy
import Derived.Test.YtljhmkkmcbfffaaDoorDf
set_option linter.unusedSimpArgs false
set_option linter.unusedVariables false
namespace Go.Proofs.YtljhmkkmcbfffaaDoor.fnExactApplyRedex
open Go.ChangeShapes Go.WideShapes Go.ChangeAt Go.RowKit Go.Den
open Go.ChangeMaps (open_string)
theorem own : ownKnob Tryd.prog.godebug = none := by kernel_rfl
theorem laidOut : laidOutB Tryd.prog = true := by kernel_rfl
theorem cells24 : Tryd.prog.cellsOf 24 = 2 := by kernel_rfl
theorem cells2 : Tryd.prog.cellsOf 2 = 1 := by kernel_rfl
theorem bytes2 : Tryd.prog.bytesOf 2 = 8 := by kernel_rfl
theorem cells22 : Tryd.prog.cellsOf 22 = 1 := by kernel_rfl
theorem cells100 : Tryd.prog.cellsOf 100 = 2 := by kernel_rfl
theorem bpos2 : 1 ≤ Tryd.prog.bytesOf 2 := Nat.le_of_ble_eq_true (by kernel_rfl)
theorem bpos100 : 1 ≤ Tryd.prog.bytesOf 100 := Nat.le_of_ble_eq_true (by kernel_rfl)
theorem cells55 : Tryd.prog.cellsOf 55 = 3 := by kernel_rfl
theorem gTab : Tryd.prog.globalNamed "math/bits.deBruijn64tab" = some 0 := by kernel_rfl
theorem gTabType : (Tryd.prog.globals[0]?).map (·.type) = some 145 := by kernel_rfl
theorem cellsTab : Tryd.prog.cellsOf 145 = 64 := by kernel_rfl
theorem cellsTabE : Tryd.prog.cellsOf 5 = 1 := by kernel_rfl
def tabI : List Int := Lib.deBruijn64tab.map fun n : Nat => (n : Int)
theorem table {W : World} (h : laidMetH Tryd.prog [("math/bits.deBruijn64tab", Rows.laid_math_bits_deBruijn64tab)] W) : Lib.TabIs Tryd.prog W "math/bits.deBruijn64tab" .u8 tabI :=
  Lib.tabIs_of_head (rest := []) gTab gTabType Tryd.underlying145 Tryd.underlying5 cellsTabE cellsTab h
theorem glob {W : World} (h : laidMetH Tryd.prog [("math/bits.deBruijn64tab", Rows.laid_math_bits_deBruijn64tab)] W) : Glob G0 W (· < W.heap.size) :=
  glob_tab (table h) gTab fun g vs hv => by
    unfold G0 at hv
    split at hv
    · cases hv
      refine ⟨rfl, ?_⟩
      unfold tabI
      rw [List.map_map]
      rfl
    · cases hv

theorem reads_ok (ts : List TypeId) (h : ts.all (fun t => Tryd.prog.readableRec t && decide (t < Tryd.prog.types.size)) = true) : ∀ t ∈ ts, Tryd.prog.readableRec t = true ∧ t < Tryd.prog.types.size := fun t ht => by
  have := List.all_eq_true.1 h t ht
  simpa using this
set_option maxRecDepth 100000 in
theorem contract (H : Type) (enc : TypeId × Value → H) (W : World) (base : Nat) (args : Array Value) (ds gs : List (DataW H)) (before : List MemPlace)
    (hval : ∀ (j : Nat) t v, Tryd.f11.params[j]? = some t → args[j]? = some v → Value.okWide Tryd.prog W .any base t v)
    (hW : DataW.Whole enc Tryd.prog Tryd.f11.params.toList Rows.fnExactApplyRedexSpec.vars false W args.toList ds gs before)
    (hsz : (DataW.weightsEach Tryd.prog (Tryd.f11.params.toList ++ Rows.fnExactApplyRedexSpec.plain.varTypes Tryd.prog) (ds ++ gs)).all (· ≤ reachBytes) = true)
    (hG : Glob G0 W (· < W.heap.size)) :
    Calls Tryd.prog 11 args W fun e W' => ∃ v, e = .returned v ∧ Rows.fnExactApplyRedexSpec.post enc Tryd.prog Tryd.f11 false true false false W args v W' := by
  have hW' := hW
  obtain ⟨p, q, hA0, hV, rfl, hfz, hnd⟩ := hW
  have hA : DataW.TrodAll enc Tryd.prog W 0 (fun _ => true) true Tryd.f11.params.toList args.toList ds p := hA0
  rw [Tryd.params11] at hA hval hsz
  obtain ⟨v0, vs0, d0, ds0, p0, q0, hargs, rfl, rfl, h0, r0⟩ := trodAll_cons hA
  obtain ⟨v1, vs1, d1, ds1, p1, q1, rfl, rfl, rfl, h1, r1⟩ := trodAll_cons r0
  obtain ⟨v2, vs2, d2, ds2, p2, q2, rfl, rfl, rfl, h2, r2⟩ := trodAll_cons r1
  obtain ⟨v3, vs3, d3, ds3, p3, q3, rfl, rfl, rfl, h3, r3⟩ := trodAll_cons r2
  obtain ⟨rfl, rfl, rfl⟩ := trodAll_nil r3
  obtain rfl : args = #[v0, v1, v2, v3] := by cases args; simp_all
  have hgs : gs = [] := by cases gs with | nil => rfl | cons _ _ => exact hV.elim
  subst hgs
  obtain ⟨n0, o0, sp0, rfl, hsh0⟩ := read_alpha Tryd.underlying24 (by kernel_rfl) cells24 Tryd.underlying2 Tryd.underlying22 Tryd.underlying2 cells2 (hval 0 24 v0 rfl rfl) h0
  let rd1 : Rd enc Tryd.prog 53 (RRules H) := Rd.slice Tryd.underlying53 (Rd.struct Tryd.underlying100 cells100 (Rds.cons (o := 0) (c := 1) rfl cells22 (Rd.slice Tryd.underlying22 (Rd.int Tryd.underlying2) cells2 bpos2) (Rds.cons (c := 1) rfl cells22 (Rd.slice Tryd.underlying22 (Rd.int Tryd.underlying2) cells2 bpos2) Rds.nil))) cells100 bpos100
  obtain ⟨a1, rfl, hsh1⟩ := rd1.arg_slice Tryd.underlying53 (hval 1 53 v1 rfl rfl) h1
  obtain ⟨fuel2, hf2⟩ := h2
  obtain ⟨a2, l2, c2, rfl⟩ := okWide_slice Tryd.underlying22 (hval 2 22 v2 rfl rfl)
  obtain ⟨o2, sp2, w2, e2, hd2, hsh2⟩ := read_ints Tryd.underlying22 Tryd.underlying2 cells2 hf2
  simp only at hd2
  subst hd2
  obtain rfl := (List.cons.inj e2).1
  let rd3 : Rd enc Tryd.prog 55 (Int × RInts H × RInts H × Unit) := Rd.struct Tryd.underlying55 cells55 (Rds.cons (o := 0) (c := 1) rfl cells2 (Rd.int Tryd.underlying2) (Rds.cons (c := 1) rfl cells22 (Rd.slice Tryd.underlying22 (Rd.int Tryd.underlying2) cells2 bpos2) (Rds.cons (c := 1) rfl cells22 (Rd.slice Tryd.underlying22 (Rd.int Tryd.underlying2) cells2 bpos2) Rds.nil)))
  obtain ⟨a3, rfl, hsh3⟩ := rd3.arg_agg Tryd.underlying55 (hval 3 55 v3 rfl rfl) h3
  have hl0 := weigh_alpha hsz (j := 0) rfl rfl Tryd.underlying24 Tryd.underlying22 bytes2
  obtain ⟨hr1, hq1⟩ := rd1.arg_big hsz (j := 1) rfl rfl
  have hR1 := rulesOf_mem hq1
  replace hr1 : (rulesOf a1).length < 2 ^ 47 := by rw [rulesOf, List.length_map]; exact hr1
  have hl2 := weigh_ints hsz (j := 2) rfl rfl Tryd.underlying22 bytes2
  obtain ⟨-, ⟨hy3, -⟩, ⟨hv3, -⟩, -⟩ := rd3.arg_big hsz (j := 3) rfl rfl
  replace hy3 : (intsOf a3.2.1).length < 2 ^ 47 := hy3
  replace hv3 : (intsOf a3.2.2.1).length < 2 ^ 47 := hv3
  refine law_step (tb := 4) laidOut (reads_ok _ (by kernel_rfl)) rfl Tryd.underlying4 rfl hW' (fun _ => ⟨rfl, rfl, rfl⟩) ?_
  refine law_calls Tryd.func11 rfl rfl (lawRed_ret n0 (o0.getD []) (rulesOf a1) (o2.getD []) a3.1 (intsOf a3.2.1) (intsOf a3.2.2.1) (by omega) (by omega) hR1 (by omega) (by omega) (by omega)) (vs := [_, _, _, _]) hG ⟨[], [], ⟨?_, rfl⟩, ⟨[], [], ⟨?_, rfl⟩, ⟨[], [], ⟨?_, rfl⟩, ⟨[], [], ⟨?_, rfl⟩, rfl, rfl⟩, rfl⟩, rfl⟩, rfl⟩
  · exact hsh0
  · exact (Shs.one (by rw [← rulesOf_cell]; exact hsh1) : ShSV W _ (.one (.sl false 2 (rulesOf a1).length ((rulesOf a1).flatMap fun r => [ints r.1, ints r.2]))) _)
  · exact hsh2
  · exact (by rw [← intsOf_cell, ← intsOf_cell]; exact hsh3 : ShSV W _ (.agg [i64 a3.1, ints (intsOf a3.2.1), ints (intsOf a3.2.2.1)]) _)
def wit : Array Value := #[.agg #[.int .i64 0, .slice none 0 0], .slice none 0 0, .slice none 0 0, .agg #[.int .i64 0, .slice none 0 0, .slice none 0 0]]
noncomputable def laidWorld (os : Os) : World :=
  { World.holding Tryd.prog os ⟨#[], #[], []⟩ with heap := (World.holding Tryd.prog os ⟨#[], #[], []⟩).heap.modify 0 fun
      | .cells _ t frozen => .cells (tabI.map fun n => Value.int .u8 n).toArray t frozen
      | o => o }
theorem laid_met (os : Os) : laidMet Tryd.prog Rows.fnExactApplyRedexRow.laid ((laidWorld os).forCall (fun _ _ => 0) ⟨#[], wit, []⟩).memory :=
  laidMet_of_run' 8 (by kernel_rfl) (by kernel_rfl)
theorem reads (os : Os) {H : Type} (enc : TypeId × Value → H) : ∃ places, DataW.whole enc Tryd.prog ((laidWorld os).forCall (fun _ _ => 0) ⟨#[], wit, []⟩).memory Tryd.f11.params.toList Rows.fnExactApplyRedexSpec.vars false wit.toList 8 = some ([.agg [.lit (.int .i64 0), .nil], .nil, .nil, .agg [.lit (.int .i64 0), .nil, .nil]], [], places) :=
  ⟨[], by kernel_rfl⟩
set_option maxRecDepth 100000 in
theorem lifted (os : Os) (started : os.Started) (H : Type) (enc : TypeId × Value → H) (F : Stop.Interp) :
    ReturnsInHanded {} Tryd.checked os 11 .any ((OpenSpec.ofChange Rows.fnExactApplyRedexSpec).preRow enc Tryd.prog Tryd.f11 Rows.fnExactApplyRedexRow.domain false Rows.fnExactApplyRedexRow.laid) (((OpenSpec.ofChange Rows.fnExactApplyRedexSpec).at F).post enc Tryd.prog Tryd.f11 false true false false) := by
  obtain ⟨places, hx⟩ := reads os enc
  refine returnsInHanded_of_row (C := Tryd.checked) (s := OpenSpec.ofChange Rows.fnExactApplyRedexSpec) own started (by kernel_rfl) Tryd.func11
    (witness_row_at (enc := enc) (C := Tryd.checked) false (laidWorld os) wit rfl (by kernel_rfl) (by kernel_rfl) (by kernel_rfl)
      (OpenSpec.preRow_of_cond 8 hx (by kernel_rfl) (fun k hk => by cases hk) (by kernel_rfl) (laid_met os))) ?_
  intro W base args ds gs before hval hW _ _ hsz hL _ _
  exact contract H enc W base args ds gs before hval hW hsz (glob hL)
theorem said : Rows.FnExactApplyRedexSaid :=
  OpenClaim.holds_of_cond 11 Tryd.f11 rfl rfl rfl rfl rfl rfl rfl ⟨rfl, rfl, rfl, rfl, rfl⟩ rfl rfl rfl rfl rfl (by kernel_rfl) Tryd.func11 (by kernel_rfl)
    (of_decide_eq_true (by kernel_rfl)) (by unfold Func.isWrapper; first | (rw [if_pos (by decide +kernel)]; kernel_rfl) | (rw [if_neg (by decide +kernel)]; exact ⟨rfl, rfl⟩))
    (fun os started H enc _ F => by rw [OpenClaim.pre_eq_preRow]; exact lifted os started H enc F)
theorem plain (f : FuncId) (fn : Func) (hf : Tryd.pinned.checked.prog.funcNamed "loop.example/g01094/laws.FnExactApplyRedex" = some f) (hfn : Tryd.pinned.checked.prog.funcs[f]? = some fn) :
    false = Tryd.pinned.checked.prog.looks [] ∧ ∀ (j : Nat) t, fn.params[j]? = some t → Tryd.pinned.checked.prog.wantsStandIn t = false := by
  obtain rfl : f = 11 := Option.some.inj ((show Tryd.prog.funcNamed "loop.example/g01094/laws.FnExactApplyRedex" = some 11 by kernel_rfl).symm.trans hf) |>.symm
  obtain rfl : fn = Tryd.f11 := (Option.some.inj (Tryd.func11.symm.trans hfn)).symm
  refine ⟨by kernel_rfl, fun j t ht => ?_⟩
  rw [Tryd.params11] at ht
  have hall : ([24, 53, 22, 55] : List TypeId).all (fun t => !Tryd.prog.wantsStandIn t) = true := by kernel_rfl
  have := List.all_eq_true.1 hall t (by have := Array.mem_of_getElem? ht; simpa using this)
  rw [Bool.not_eq_true'] at this
  exact this
theorem card : Rows.FnExactApplyRedexCardSaid :=
  Claim7.holds_tied_plain_at .later [] _ _ _ _ said (fun _ h => by cases h) (by kernel_rfl) (fun _ h => by cases h) fnExactApplyRedex_row_tie rfl ⟨rfl, rfl⟩ (by kernel_rfl) rfl plain (by kernel_rfl)
end Go.Proofs.YtljhmkkmcbfffaaDoor.fnExactApplyRedex
