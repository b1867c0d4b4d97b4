import Derived.Test.YthlnahomjdcbeaaDoorDe
import Derived.ProofKit
import Derived.Lib.SmallJoins
import Derived.Lib.LaidTab
import Derived.Deep.DeepHandedRow
set_option autoImplicit false
set_option linter.unusedSimpArgs false
set_option linter.unusedVariables false
/- From what a call promises on trees to what a law's statement says. -/
namespace Go.Den
open Go.ChangeShapes Go.WideShapes Go.ChangeAt Go.RowKit

theorem Ext.below {D : Nat → Prop} {w w' : World} (h : Ext D w w') (hd : ∀ b, ¬ D b) : Below w.heap.size w w' :=
  ⟨h.os, h.tape, h.output, h.size, fun k hk => h.keep k hk (hd k)⟩

section
variable {H : Type} {enc : TypeId × Value → H} {P : Program}
theorem trodAll_stays (hl : laidOutB P = true) {W W' : World} (hb : Below W.heap.size W W') : ∀ {ts : List TypeId} {vs : List Value} {ds : List (DataW H)} {ps : List MemPlace}, (∀ t ∈ ts, P.readableRec t = true ∧ t < P.types.size) →
    (∀ x ∈ ps, x.block < W.heap.size) → DataW.TrodAll enc P W 0 (fun _ => true) true ts vs ds ps → DataW.TrodAll enc P W' 0 (fun b => decide (b < W.heap.size)) true ts vs ds ps
  | [], [], [], _, _, _, h => h
  | t :: ts, v :: vs, d :: ds, ps, hr, hlt, ⟨p, q, h1, h2, e⟩ => by
    subst e
    exact ⟨p, q, Below.trod hl (hr t (by simp)).1 (hr t (by simp)).2 h1 hb (fun x hx => hlt x (by simp [hx])), trodAll_stays hl hb (fun t ht => hr t (by simp [ht])) (fun x hx => hlt x (by simp [hx])) h2, rfl⟩
  | [], _ :: _, _, _, _, _, h => h.elim
  | [], [], _ :: _, _, _, _, h => h.elim
  | _ :: _, [], _, _, _, _, h => h.elim
  | _ :: _, _ :: _, [], _, _, _, h => h.elim

theorem law_step {f : FuncId} {fn : Func} {s : ChangeSpec} {tb : TypeId} (hl : laidOutB P = true) (hread : ∀ t ∈ fn.params.toList, P.readableRec t = true ∧ t < P.types.size) (hres : fn.resultTypes = #[tb]) (hb : P.underlying tb = some .bool)
    (hv : s.vars = []) {W : World} {args : Array Value} {ds gs : List (DataW H)} {before : List MemPlace} (hW : DataW.Whole enc P fn.params.toList s.vars false W args.toList ds gs before)
    (hspec : gs = [] → (s.fn H (ds ++ gs)).results = [.lit (.bool true)] ∧ (s.fn H (ds ++ gs)).args = ds ∧ (s.fn H (ds ++ gs)).vars = [])
    (hc : Calls P f args W fun e W' => e = .returned (.bool true) ∧ Below W.heap.size W W') :
    Calls P f args W fun e W' => ∃ v, e = .returned v ∧ s.post enc P fn false true false false W args v W' := by
  refine hc.mono fun e W' ⟨he, hbw⟩ => ⟨_, he, ?_⟩
  have hlt := fun p hp => hW.lt p hp
  obtain ⟨p, q, hA, hV, rfl, hz, hn⟩ := id hW
  have hgs : gs = [] ∧ q = [] := by
    rw [hv] at hV
    match gs, hV with
    | [], h => exact ⟨rfl, h⟩
  obtain ⟨rfl, rfl⟩ := hgs
  obtain ⟨h1, h2, h3⟩ := hspec rfl
  refine ⟨ds, [], _, [], p, [], hW, ?_, ?_, ?_, hbw.frame _, fun h => by cases h⟩
  · rw [h1, hres]
    exact trodAll_mk1 (shut_bool hb true)
  · rw [h2]
    exact trodAll_stays hl hbw hread (fun x hx => hlt x (by simp [hx])) hA
  · rw [hv, h3]
    rfl

theorem goes_calls {f : FuncId} {fn : Func} {c : Code} (hf : P.funcs[f]? = some fn) (hb : fn.body = some c) (hname : (fn.name == "runtime.NumGoroutine") = false) {vs : Array Value} {w : World} {R : Value → World → Prop}
    (h : Goes P f vs w R) : Calls P f vs w fun e w' => ∃ v, e = .returned v ∧ R v w' := by
  unfold Goes at h
  rw [run_enter hf hb hname] at h
  refine h.mono fun e w' he => ?_
  cases e with
  | returned v => exact ⟨v, rfl, he⟩
  | _ => exact he.elim
/-- A law that promises true. -/
theorem law_calls {G : Nat → Option (List Value)} {f : FuncId} {fn : Func} {c : Code} (hf : P.funcs[f]? = some fn) (hb : fn.body = some c) (hname : (fn.name == "runtime.NumGoroutine") = false) {as : List Arg}
    (hr : Ret P G f as ⟨.one (.c (.bool true)), []⟩) {vs : List Value} {W : World} (hg : Glob G W (· < W.heap.size)) (ha : ArgsRel W (· < W.heap.size) as vs []) :
    Calls P f vs.toArray W fun e W' => e = .returned (.bool true) ∧ Below W.heap.size W W' := by
  have := hr W (· < W.heap.size) vs [] hg (fun _ h => h) ha .nil (by simp)
  refine (goes_calls hf hb hname this).mono fun e W' he => ?_
  obtain ⟨v, rfl, Z', lr, lo, hx, -, -, hv, -⟩ := he
  have : v = .bool true := by
    cases hv
    rfl
  subst this
  exact ⟨rfl, hx.below (by simp)⟩
end
end Go.Den

/- What readings say of trees. -/
namespace Go.Den
open Go.ChangeShapes Go.WideShapes Go.ChangeAt Go.RowKit Go.Joins Go.ChangeShapes

/-- A slice that may be nil, as it is read. -/
def intsD {H : Type} (k : IntKind) (o : Option (List Int)) (sp : List Int) : DataW H := match o with
  | none => .nil
  | some xs => .slice (lits k xs) (lits k sp)
def intsC (k : IntKind) (o : Option (List Int)) : Cell := .sl false 1 (o.getD []).length ((o.getD []).map fun n => .c (.int k n))
section
variable {H : Type} {enc : TypeId × Value → H} {P : Program} {W : World}
theorem cell_heap {a : Addr} {v : Value} (h : W.cell? a = some v) : a.spot = none ∧ a.block < W.heap.size ∧ ∃ cur e fr, W.heap[a.block]? = some (.cells cur e fr) ∧ cur[a.off]? = some v := by
  unfold World.cell? at h
  split at h
  · rename_i c e fr hh
    split at h
    · cases h
    · rename_i hs
      refine ⟨by simpa using hs, ?_, c, e, fr, hh, h⟩
      exact (Array.getElem?_eq_some_iff.1 hh).1
  · cases h
/-- A row of cells, read one by one. -/
theorem row_cells {a : Addr} {vs : List Value} (hne : vs ≠ []) (h : ∀ i, i < vs.length → W.cell? (a.add i) = vs[i]?) :
    a.block < W.heap.size ∧ a.spot = none ∧ ∃ (cur : Array Value) (e : TypeId) (fr : Nat × Nat), W.heap[a.block]? = some (.cells cur e fr) ∧ a.off + vs.length ≤ cur.size ∧ vs = (cur.toList.drop a.off).take vs.length := by
  have hpos : 0 < vs.length := List.length_pos_iff.2 hne
  have h0 := h 0 hpos
  rw [show a.add 0 = a by simp [Addr.add], List.getElem?_eq_getElem hpos] at h0
  obtain ⟨hs, hlt, cur, e, fr, hh, -⟩ := cell_heap h0
  have hc : ∀ i, i < vs.length → cur[a.off + i]? = vs[i]? := fun i hi => by
    have h1 := h i hi
    rw [add_at a i hs, List.getElem?_eq_getElem hi] at h1
    obtain ⟨-, -, cur', e', fr', hh', h2⟩ := cell_heap h1
    simp only at hh' h2
    rw [hh] at hh'
    cases hh'
    rw [h2, List.getElem?_eq_getElem hi]
  refine ⟨hlt, hs, cur, e, fr, hh, ?_, ?_⟩
  · have h1 := hc (vs.length - 1) (by omega)
    rw [List.getElem?_eq_getElem (by omega)] at h1
    have := (Array.getElem?_eq_some_iff.1 h1).1
    omega
  · refine List.ext_getElem? fun i => ?_
    rw [List.getElem?_take, List.getElem?_drop]
    split
    · rename_i hi; rw [← hc i hi]; simp
    · rename_i hi; rw [List.getElem?_eq_none (by omega)]
theorem read_ints {t e : TypeId} {k : IntKind} {held : Bool} {fuel : Nat} {cs : List Value} {x : DataW H × List MemPlace} (ht : P.underlying t = some (.slice e)) (he : P.underlying e = some (.int k)) (hc : P.cellsOf e = 1)
    (h : DataW.trod enc P W 0 (fun _ => true) held fuel t cs = some x) : ∃ o sp v, cs = [v] ∧ x.1 = intsD k o sp ∧ Sh W (· < W.heap.size) (intsC k o) v := by
  rcases open_ints ht he hc h with ⟨rfl, rfl⟩ | ⟨a, len, cap, zs, rfl, -, hl, -, hz, rfl, hcell, -⟩
  · exact ⟨none, [], _, rfl, rfl, .nil _ _⟩
  · simp only [if_true] at hz
    have htl : (zs.take len).length = len := by rw [List.length_take]; omega
    refine ⟨some (zs.take len), zs.drop len, _, rfl, rfl, ?_⟩
    unfold intsC
    simp only [Option.getD_some]
    rw [htl]
    have hmap : ((zs.take len).map fun n => Cell.c (.int k n)) = ((zs.take len).map fun n => Value.int k n).map .c := by rw [List.map_map]; rfl
    rw [hmap]
    refine .sl (by rw [List.length_map, List.length_map, htl, Nat.mul_one]) hl (Shs.of_c _) fun hne => ?_
    have hne' : ((zs.take len).map fun n => Value.int k n) ≠ [] := fun e => hne (by rw [e]; rfl)
    have := row_cells (W := W) (a := a) hne' fun i hi => by
      simp only [List.length_map, htl] at hi
      rw [hcell i (by omega), List.getElem?_map, List.getElem?_take, if_pos hi, List.getElem?_eq_getElem (by omega)]
      simp [List.getD_eq_getElem?_getD, List.getElem?_eq_getElem (show i < zs.length by omega)]
    rw [List.length_map, htl] at this
    rw [Nat.mul_one]
    exact this
/-- How long what is read can be. -/
theorem weigh_ints {ts : List TypeId} {ds : List (DataW H)} (h : (DataW.weightsEach P ts ds).all (· ≤ reachBytes) = true) {j : Nat} {t e : TypeId} {k : IntKind} {o : Option (List Int)} {sp : List Int} (ht : ts[j]? = some t) (hd : ds[j]? = some (intsD k o sp))
    (hu : P.underlying t = some (.slice e)) (hb : P.bytesOf e = 8) : (o.getD []).length < 2 ^ 44 := by
  cases o with
  | none => simp
  | some xs =>
    have := sized_slice h ht hd hu
    rw [hb] at this
    simp only [lits, List.length_map, reachBytes] at this
    show xs.length < _
    omega
/-- A struct of an integer and a slice of integers. -/
theorem read_alpha {r : Reach} {b0 : Nat} {t : TypeId} {f0 f1 : Field} {e : TypeId} {v : Value} {d : DataW H} {p : List MemPlace} (hs : P.underlying t = some (.struct #[f0, f1])) (hone : Deep.oneCellFields P #[f0, f1] = true) (hC : P.cellsOf t = 2)
    (h0 : P.underlying f0.type = some (.int .i64)) (h1 : P.underlying f1.type = some (.slice e)) (he : P.underlying e = some (.int .i64)) (hc : P.cellsOf e = 1)
    (hv : Value.okWide P W r b0 t v) (h : DataW.Trod enc P W 0 (fun _ => true) true t v d p) :
    ∃ n o sp, d = .agg [.lit (.int .i64 n), intsD .i64 o sp] ∧ ShSV W (· < W.heap.size) (.agg [i64 n, intsC .i64 o]) v := by
  obtain ⟨v0, v1, y0, y1, m, rfl, rfl, rfl, hy0, hy1⟩ := open_agg2 hs hone hC hv h
  obtain ⟨n, e0, rfl, -⟩ := DataW.trod_int h0 hy0
  obtain ⟨o, sp, v', e1, hd, hsh⟩ := read_ints h1 he hc hy1
  cases e0
  cases e1
  exact ⟨n, o, sp, by rw [hd], _, rfl, .cons (.c _) (.cons hsh .nil)⟩
theorem weigh_alpha {ts : List TypeId} {ds : List (DataW H)} (h : (DataW.weightsEach P ts ds).all (· ≤ reachBytes) = true) {j : Nat} {t e : TypeId} {f0 f1 : Field} {n : Int} {o : Option (List Int)} {sp : List Int} (ht : ts[j]? = some t) (hd : ds[j]? = some (.agg [.lit (.int .i64 n), intsD .i64 o sp]))
    (hs : P.underlying t = some (.struct #[f0, f1])) (h1 : P.underlying f1.type = some (.slice e)) (hb : P.bytesOf e = 8) : (o.getD []).length < 2 ^ 44 := by
  cases o with
  | none => simp
  | some xs =>
    have := List.all_eq_true.1 h _ (DataW.weights_mem_each ht hd ((xs.length + sp.length) * P.bytesOf e) (by simp [DataW.weights, DataW.weightsEach, hs, h1, intsD, lits]))
    rw [hb] at this
    have h2 : (xs.length + sp.length) * 8 ≤ 140737488351232 := of_decide_eq_true this
    show xs.length < _
    omega
/-- A table that is laid. -/
theorem glob_tab {name : String} {g : Nat} {k : IntKind} {zs : List Int} {G : Nat → Option (List Value)} (h : Lib.TabIs P W name k zs) (hg : P.globalNamed name = some g) (hG : ∀ g' vs, G g' = some vs → g' = g ∧ vs = zs.map fun z => Value.int k z) :
    Glob G W (· < W.heap.size) := fun g' vs hv => by
  obtain ⟨rfl, rfl⟩ := hG g' vs hv
  simp only [Lib.TabIs, World.var?, hg, Option.bind_some] at h
  split at h
  · rename_i cs e fr hh
    cases h
    exact ⟨(Array.getElem?_eq_some_iff.1 hh).1, e, fr, hh⟩
  · cases h
end
end Go.Den
