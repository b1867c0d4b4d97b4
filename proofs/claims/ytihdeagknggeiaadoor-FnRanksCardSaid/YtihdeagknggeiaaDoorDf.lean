import Derived.Test.YtihdeagknggeiaaDoorDe
import Derived.ProofKit
import Derived.Lib.SmallJoins
import Derived.Lib.LaidTab
import Derived.Deep.DeepHandedRow
set_option autoImplicit false
set_option linter.unusedSimpArgs false
set_option linter.unusedVariables false
/- From what a call promises on trees to what a law's statement says. -/
namespace Go.Den
open Go.ChangeShapes Go.WideShapes Go.ChangeAt Go.RowKit

theorem Ext.below {D : Nat → Prop} {w w' : World} (h : Ext D w w') (hd : ∀ b, ¬ D b) : Below w.heap.size w w' :=
  ⟨h.os, h.tape, h.output, h.size, fun k hk => h.keep k hk (hd k)⟩

section
variable {H : Type} {enc : TypeId × Value → H} {P : Program}
theorem trodAll_stays (hl : laidOutB P = true) {W W' : World} (hb : Below W.heap.size W W') : ∀ {ts : List TypeId} {vs : List Value} {ds : List (DataW H)} {ps : List MemPlace}, (∀ t ∈ ts, P.readableRec t = true ∧ t < P.types.size) →
    (∀ x ∈ ps, x.block < W.heap.size) → DataW.TrodAll enc P W 0 (fun _ => true) true ts vs ds ps → DataW.TrodAll enc P W' 0 (fun b => decide (b < W.heap.size)) true ts vs ds ps
  | [], [], [], _, _, _, h => h
  | t :: ts, v :: vs, d :: ds, ps, hr, hlt, ⟨p, q, h1, h2, e⟩ => by
    subst e
    exact ⟨p, q, Below.trod hl (hr t (by simp)).1 (hr t (by simp)).2 h1 hb (fun x hx => hlt x (by simp [hx])), trodAll_stays hl hb (fun t ht => hr t (by simp [ht])) (fun x hx => hlt x (by simp [hx])) h2, rfl⟩
  | [], _ :: _, _, _, _, _, h => h.elim
  | [], [], _ :: _, _, _, _, h => h.elim
  | _ :: _, [], _, _, _, _, h => h.elim
  | _ :: _, _ :: _, [], _, _, _, h => h.elim

theorem law_step {f : FuncId} {fn : Func} {s : ChangeSpec} {tb : TypeId} (hl : laidOutB P = true) (hread : ∀ t ∈ fn.params.toList, P.readableRec t = true ∧ t < P.types.size) (hres : fn.resultTypes = #[tb]) (hb : P.underlying tb = some .bool)
    (hv : s.vars = []) {W : World} {args : Array Value} {ds gs : List (DataW H)} {before : List MemPlace} (hW : DataW.Whole enc P fn.params.toList s.vars false W args.toList ds gs before)
    (hspec : gs = [] → (s.fn H (ds ++ gs)).results = [.lit (.bool true)] ∧ (s.fn H (ds ++ gs)).args = ds ∧ (s.fn H (ds ++ gs)).vars = [])
    (hc : Calls P f args W fun e W' => e = .returned (.bool true) ∧ Below W.heap.size W W') :
    Calls P f args W fun e W' => ∃ v, e = .returned v ∧ s.post enc P fn false true false false W args v W' := by
  refine hc.mono fun e W' ⟨he, hbw⟩ => ⟨_, he, ?_⟩
  have hlt := fun p hp => hW.lt p hp
  obtain ⟨p, q, hA, hV, rfl, hz, hn⟩ := id hW
  have hgs : gs = [] ∧ q = [] := by
    rw [hv] at hV
    match gs, hV with
    | [], h => exact ⟨rfl, h⟩
  obtain ⟨rfl, rfl⟩ := hgs
  obtain ⟨h1, h2, h3⟩ := hspec rfl
  refine ⟨ds, [], _, [], p, [], hW, ?_, ?_, ?_, hbw.frame _, fun h => by cases h⟩
  · rw [h1, hres]
    exact trodAll_mk1 (shut_bool hb true)
  · rw [h2]
    exact trodAll_stays hl hbw hread (fun x hx => hlt x (by simp [hx])) hA
  · rw [hv, h3]
    rfl

theorem goes_calls {f : FuncId} {fn : Func} {c : Code} (hf : P.funcs[f]? = some fn) (hb : fn.body = some c) (hname : (fn.name == "runtime.NumGoroutine") = false) {vs : Array Value} {w : World} {R : Value → World → Prop}
    (h : Goes P f vs w R) : Calls P f vs w fun e w' => ∃ v, e = .returned v ∧ R v w' := by
  unfold Goes at h
  rw [run_enter hf hb hname] at h
  refine h.mono fun e w' he => ?_
  cases e with
  | returned v => exact ⟨v, rfl, he⟩
  | _ => exact he.elim
/-- A law that promises true. -/
theorem law_calls {G : Nat → Option (List Value)} {f : FuncId} {fn : Func} {c : Code} (hf : P.funcs[f]? = some fn) (hb : fn.body = some c) (hname : (fn.name == "runtime.NumGoroutine") = false) {as : List Arg}
    (hr : Ret P G f as ⟨.one (.c (.bool true)), []⟩) {vs : List Value} {W : World} (hg : Glob G W (· < W.heap.size)) (ha : ArgsRel W (· < W.heap.size) as vs []) :
    Calls P f vs.toArray W fun e W' => e = .returned (.bool true) ∧ Below W.heap.size W W' := by
  have := hr W (· < W.heap.size) vs [] hg (fun _ h => h) ha .nil (by simp)
  refine (goes_calls hf hb hname this).mono fun e W' he => ?_
  obtain ⟨v, rfl, Z', lr, lo, hx, -, -, hv, -⟩ := he
  have : v = .bool true := by
    cases hv
    rfl
  subst this
  exact ⟨rfl, hx.below (by simp)⟩
end
/-! ### What reads as more reads as less -/
/-- Whatever reads as y reads as x. -/
def CLe (x y : Cell) : Prop := ∀ (w : World) (Z : Nat → Prop) (v : Value), Sh w Z y v → Sh w Z x v
inductive CLes : List Cell → List Cell → Prop
  | nil : CLes [] []
  | cons {x y : Cell} {xs ys : List Cell} (h : CLe x y) (t : CLes xs ys) : CLes (x :: xs) (y :: ys)
theorem CLe.refl (x : Cell) : CLe x x := fun _ _ _ h => h
theorem CLes.sh : ∀ {xs ys : List Cell}, CLes xs ys → ∀ {w : World} {Z : Nat → Prop} {vs : List Value}, Shs w Z ys vs → Shs w Z xs vs
  | _, _, .nil, _, _, _, h => h
  | _, _, .cons hx ht, _, _, _, .cons h t => .cons (hx _ _ _ h) (ht.sh t)
theorem CLes.length : ∀ {xs ys : List Cell}, CLes xs ys → xs.length = ys.length
  | _, _, .nil => rfl
  | _, _, .cons _ t => by simp [t.length]
theorem CLes.map {α : Type} {f g : α → Cell} {xs : List α} (h : ∀ x ∈ xs, CLe (f x) (g x)) : CLes (xs.map f) (xs.map g) := by
  induction xs with
  | nil => exact .nil
  | cons x xs ih => exact .cons (h x (by simp)) (ih fun y hy => h y (by simp [hy]))
theorem CLe.nil (es : Bool) (sz : Nat) : CLe (.sl es sz 0 []) (.c (.slice none 0 0)) := fun w Z v h => by
  cases h
  exact .nil _ _
theorem CLe.sl {es : Bool} {sz n : Nat} {xs ys : List Cell} (h : CLes xs ys) : CLe (.sl es sz n xs) (.sl es sz n ys) := fun w Z v hv => by
  have hl := h.length
  cases hv with
  | sl hlen hcap hc hm => exact .sl (by rw [hl]; exact hlen) hcap (h.sh hc) fun hne => hm fun e => hne (List.length_eq_zero_iff.1 (by rw [hl, e]; rfl))
  | nil =>
    cases h
    exact .nil _ _
inductive LeAs : List Arg → List Arg → Prop
  | nil : LeAs [] []
  | same (a : Arg) {as bs : List Arg} (t : LeAs as bs) : LeAs (a :: as) (a :: bs)
  | ro {x y : Cell} {as bs : List Arg} (h : CLe x y) (t : LeAs as bs) : LeAs (⟨.ro, .one x⟩ :: as) (⟨.ro, .one y⟩ :: bs)
theorem LeAs.args : ∀ {as bs : List Arg}, LeAs as bs → ∀ {w : World} {Z : Nat → Prop} {vs : List Value} {l : List Nat}, ArgsRel w Z bs vs l → ArgsRel w Z as vs l
  | _, _, .nil, _, _, _, _, h => h
  | _, _, .same a t, _, _, v :: vs, l, ⟨l1, l2, h1, h2, h3⟩ => ⟨l1, l2, h1, t.args h2, h3⟩
  | _, _, .ro h t, w, Z, v :: vs, l, ⟨l1, l2, ⟨h1, h1'⟩, h2, h3⟩ => ⟨l1, l2, ⟨h w Z v h1, h1'⟩, t.args h2, h3⟩
  | _, _, .same a t, _, _, [], l, h => h.elim
  | _, _, .ro h t, w, Z, [], l, h' => h'.elim
theorem LeAs.outs : ∀ {as bs : List Arg}, LeAs as bs → ∀ {w : World} {Z : Nat → Prop} {vs : List Value} {os : List SV} {l : List Nat}, OutsRel w Z as vs os l → OutsRel w Z bs vs os l
  | _, _, .nil, _, _, _, _, _, h => h
  | _, _, .same a t, _, _, v :: vs, os, l, h => by
    simp only [OutsRel] at h ⊢
    split at h
    · obtain ⟨o, os', l1, l2, h1, h2, h3, h4⟩ := h
      exact ⟨o, os', l1, l2, h1, h2, t.outs h3, h4⟩
    · exact t.outs h
  | _, _, .ro _ t, _, _, v :: vs, os, l, h => t.outs (vs := vs) h
  | _, _, .same a t, _, _, [], _, l, h => h.elim
  | _, _, .ro h t, w, Z, [], _, l, h' => h'.elim
theorem Ret.weaken {P : Program} {G : Nat → Option (List Value)} {f : FuncId} {as bs : List Arg} {res : Res} (h : Ret P G f as res) (hle : LeAs as bs) : Ret P G f bs res := fun w Z vs l hG hZ ha hl hb => by
  refine (h w Z vs l hG hZ (hle.args ha) hl hb).mono fun v w' hr => ?_
  obtain ⟨Z', lr, lo, h1, h2, h3, h4, h5, h6⟩ := hr
  exact ⟨Z', lr, lo, h1, h2, h3, h4, hle.outs h5, h6⟩
end Go.Den

/- What readings say of trees. -/
namespace Go.Den
open Go.ChangeShapes Go.WideShapes Go.ChangeAt Go.RowKit Go.Joins Go.ChangeShapes

/-- A slice that may be nil, as it is read. -/
def intsD {H : Type} (k : IntKind) (o : Option (List Int)) (sp : List Int) : DataW H := match o with
  | none => .nil
  | some xs => .slice (lits k xs) (lits k sp)
def intsC (k : IntKind) (o : Option (List Int)) : Cell := .sl false 1 (o.getD []).length ((o.getD []).map fun n => .c (.int k n))
section
variable {H : Type} {enc : TypeId × Value → H} {P : Program} {W : World}
theorem cell_heap {a : Addr} {v : Value} (h : W.cell? a = some v) : a.spot = none ∧ a.block < W.heap.size ∧ ∃ cur e fr, W.heap[a.block]? = some (.cells cur e fr) ∧ cur[a.off]? = some v := by
  unfold World.cell? at h
  split at h
  · rename_i c e fr hh
    split at h
    · cases h
    · rename_i hs
      refine ⟨by simpa using hs, ?_, c, e, fr, hh, h⟩
      exact (Array.getElem?_eq_some_iff.1 hh).1
  · cases h
/-- A row of cells, read one by one. -/
theorem row_cells {a : Addr} {vs : List Value} (hne : vs ≠ []) (h : ∀ i, i < vs.length → W.cell? (a.add i) = vs[i]?) :
    a.block < W.heap.size ∧ a.spot = none ∧ ∃ (cur : Array Value) (e : TypeId) (fr : Nat × Nat), W.heap[a.block]? = some (.cells cur e fr) ∧ a.off + vs.length ≤ cur.size ∧ vs = (cur.toList.drop a.off).take vs.length := by
  have hpos : 0 < vs.length := List.length_pos_iff.2 hne
  have h0 := h 0 hpos
  rw [show a.add 0 = a by simp [Addr.add], List.getElem?_eq_getElem hpos] at h0
  obtain ⟨hs, hlt, cur, e, fr, hh, -⟩ := cell_heap h0
  have hc : ∀ i, i < vs.length → cur[a.off + i]? = vs[i]? := fun i hi => by
    have h1 := h i hi
    rw [add_at a i hs, List.getElem?_eq_getElem hi] at h1
    obtain ⟨-, -, cur', e', fr', hh', h2⟩ := cell_heap h1
    simp only at hh' h2
    rw [hh] at hh'
    cases hh'
    rw [h2, List.getElem?_eq_getElem hi]
  refine ⟨hlt, hs, cur, e, fr, hh, ?_, ?_⟩
  · have h1 := hc (vs.length - 1) (by omega)
    rw [List.getElem?_eq_getElem (by omega)] at h1
    have := (Array.getElem?_eq_some_iff.1 h1).1
    omega
  · refine List.ext_getElem? fun i => ?_
    rw [List.getElem?_take, List.getElem?_drop]
    split
    · rename_i hi; rw [← hc i hi]; simp
    · rename_i hi; rw [List.getElem?_eq_none (by omega)]
theorem read_ints {t e : TypeId} {k : IntKind} {held : Bool} {fuel : Nat} {cs : List Value} {x : DataW H × List MemPlace} (ht : P.underlying t = some (.slice e)) (he : P.underlying e = some (.int k)) (hc : P.cellsOf e = 1)
    (h : DataW.trod enc P W 0 (fun _ => true) held fuel t cs = some x) : ∃ o sp v, cs = [v] ∧ x.1 = intsD k o sp ∧ Sh W (· < W.heap.size) (intsC k o) v := by
  rcases open_ints ht he hc h with ⟨rfl, rfl⟩ | ⟨a, len, cap, zs, rfl, -, hl, -, hz, rfl, hcell, -⟩
  · exact ⟨none, [], _, rfl, rfl, .nil _ _⟩
  · simp only [if_true] at hz
    have htl : (zs.take len).length = len := by rw [List.length_take]; omega
    refine ⟨some (zs.take len), zs.drop len, _, rfl, rfl, ?_⟩
    unfold intsC
    simp only [Option.getD_some]
    rw [htl]
    have hmap : ((zs.take len).map fun n => Cell.c (.int k n)) = ((zs.take len).map fun n => Value.int k n).map .c := by rw [List.map_map]; rfl
    rw [hmap]
    refine .sl (by rw [List.length_map, List.length_map, htl, Nat.mul_one]) hl (Shs.of_c _) fun hne => ?_
    have hne' : ((zs.take len).map fun n => Value.int k n) ≠ [] := fun e => hne (by rw [e]; rfl)
    have := row_cells (W := W) (a := a) hne' fun i hi => by
      simp only [List.length_map, htl] at hi
      rw [hcell i (by omega), List.getElem?_map, List.getElem?_take, if_pos hi, List.getElem?_eq_getElem (by omega)]
      simp [List.getD_eq_getElem?_getD, List.getElem?_eq_getElem (show i < zs.length by omega)]
    rw [List.length_map, htl] at this
    rw [Nat.mul_one]
    exact this
/-- How long what is read can be. -/
theorem weigh_ints {ts : List TypeId} {ds : List (DataW H)} (h : (DataW.weightsEach P ts ds).all (· ≤ reachBytes) = true) {j : Nat} {t e : TypeId} {k : IntKind} {o : Option (List Int)} {sp : List Int} (ht : ts[j]? = some t) (hd : ds[j]? = some (intsD k o sp))
    (hu : P.underlying t = some (.slice e)) (hb : P.bytesOf e = 8) : (o.getD []).length < 2 ^ 44 := by
  cases o with
  | none => simp
  | some xs =>
    have := sized_slice h ht hd hu
    rw [hb] at this
    simp only [lits, List.length_map, reachBytes] at this
    show xs.length < _
    omega
/-- A struct of an integer and a slice of integers. -/
theorem read_alpha {r : Reach} {b0 : Nat} {t : TypeId} {f0 f1 : Field} {e : TypeId} {v : Value} {d : DataW H} {p : List MemPlace} (hs : P.underlying t = some (.struct #[f0, f1])) (hone : Deep.oneCellFields P #[f0, f1] = true) (hC : P.cellsOf t = 2)
    (h0 : P.underlying f0.type = some (.int .i64)) (h1 : P.underlying f1.type = some (.slice e)) (he : P.underlying e = some (.int .i64)) (hc : P.cellsOf e = 1)
    (hv : Value.okWide P W r b0 t v) (h : DataW.Trod enc P W 0 (fun _ => true) true t v d p) :
    ∃ n o sp, d = .agg [.lit (.int .i64 n), intsD .i64 o sp] ∧ ShSV W (· < W.heap.size) (.agg [i64 n, intsC .i64 o]) v := by
  obtain ⟨v0, v1, y0, y1, m, rfl, rfl, rfl, hy0, hy1⟩ := open_agg2 hs hone hC hv h
  obtain ⟨n, e0, rfl, -⟩ := DataW.trod_int h0 hy0
  obtain ⟨o, sp, v', e1, hd, hsh⟩ := read_ints h1 he hc hy1
  cases e0
  cases e1
  exact ⟨n, o, sp, by rw [hd], _, rfl, .cons (.c _) (.cons hsh .nil)⟩
theorem weigh_alpha {ts : List TypeId} {ds : List (DataW H)} (h : (DataW.weightsEach P ts ds).all (· ≤ reachBytes) = true) {j : Nat} {t e : TypeId} {f0 f1 : Field} {n : Int} {o : Option (List Int)} {sp : List Int} (ht : ts[j]? = some t) (hd : ds[j]? = some (.agg [.lit (.int .i64 n), intsD .i64 o sp]))
    (hs : P.underlying t = some (.struct #[f0, f1])) (h1 : P.underlying f1.type = some (.slice e)) (hb : P.bytesOf e = 8) : (o.getD []).length < 2 ^ 44 := by
  cases o with
  | none => simp
  | some xs =>
    have := List.all_eq_true.1 h _ (DataW.weights_mem_each ht hd ((xs.length + sp.length) * P.bytesOf e) (by simp [DataW.weights, DataW.weightsEach, hs, h1, intsD, lits]))
    rw [hb] at this
    have h2 : (xs.length + sp.length) * 8 ≤ 140737488351232 := of_decide_eq_true this
    show xs.length < _
    omega
/-- A table that is laid. -/
theorem glob_tab {name : String} {g : Nat} {k : IntKind} {zs : List Int} {G : Nat → Option (List Value)} (h : Lib.TabIs P W name k zs) (hg : P.globalNamed name = some g) (hG : ∀ g' vs, G g' = some vs → g' = g ∧ vs = zs.map fun z => Value.int k z) :
    Glob G W (· < W.heap.size) := fun g' vs hv => by
  obtain ⟨rfl, rfl⟩ := hG g' vs hv
  simp only [Lib.TabIs, World.var?, hg, Option.bind_some] at h
  split at h
  · rename_i cs e fr hh
    cases h
    exact ⟨(Array.getElem?_eq_some_iff.1 hh).1, e, fr, hh⟩
  · cases h
end
end Go.Den

/- Readings of arguments, put together by their types. -/
namespace Go.Den
open Go.ChangeShapes Go.WideShapes Go.ChangeAt Go.RowKit Go.Joins Go.ChangeShapes

section
variable {H : Type} (enc : TypeId × Value → H) (P : Program)
/-- What values of a type read as: data, cells, and the bounds. -/
structure Rd (t : TypeId) (α : Type) where
  D : α → DataW H
  C : α → List Cell
  big : α → Prop
  read : ∀ {W : World} {held : Bool} {fuel : Nat} {cs : List Value} {x : DataW H × List MemPlace}, DataW.trod enc P W 0 (fun _ => true) held fuel t cs = some x → ∃ a, x.1 = D a ∧ Shs W (· < W.heap.size) (C a) cs
  weigh : ∀ a, (DataW.weights P t (D a)).all (· ≤ reachBytes) = true → big a
/-- Fields from the offset o on, of tot cells. -/
structure Rds (fs : List Field) (o tot : Nat) (β : Type) where
  D : β → List (DataW H)
  C : β → List Cell
  big : β → Prop
  read : ∀ {W : World} {held : Bool} {n : Nat} {cs : List Value} {xs : List (DataW H × List MemPlace)}, cs.length = tot → xs.length = fs.length →
    (∀ (i : Nat) (f : Field), fs[i]? = some f → DataW.trod enc P W 0 (fun _ => true) held n f.type ((cs.drop f.offset).take (P.cellsOf f.type)) = xs[i]?) → ∃ b, xs.map (·.1) = D b ∧ Shs W (· < W.heap.size) (C b) (cs.drop o)
  weigh : ∀ b, (DataW.weightsEach P (fs.map (·.type)) (D b)).all (· ≤ reachBytes) = true → big b
variable {enc P}
def Rd.int {t : TypeId} {k : IntKind} (ht : P.underlying t = some (.int k)) : Rd enc P t Int where
  D n := .lit (.int k n)
  C n := [.c (.int k n)]
  big _ := True
  read h := by
    obtain ⟨n, rfl, rfl, -⟩ := DataW.trod_int ht h
    exact ⟨n, rfl, .cons (.c _) .nil⟩
  weigh _ _ := trivial
def Rd.bool {t : TypeId} (ht : P.underlying t = some .bool) : Rd enc P t Bool where
  D b := .lit (.bool b)
  C b := [.c (.bool b)]
  big _ := True
  read h := by
    obtain ⟨n, rfl, rfl⟩ := DataW.trod_bool ht h
    exact ⟨n, rfl, .cons (.c _) .nil⟩
  weigh _ _ := trivial
def Rd.string {t : TypeId} (ht : P.underlying t = some .string) : Rd enc P t ByteArray where
  D s := .lit (.string s.data.toList)
  C s := [.c (.string s)]
  big s := s.size < 2 ^ 47
  read h := by
    obtain ⟨s, rfl, rfl, -⟩ := DataW.trod_string ht h
    exact ⟨s, rfl, .cons (.c _) .nil⟩
  weigh s h := by
    simp only [DataW.weights, List.all_cons, List.all_nil, Bool.and_true] at h
    have h2 : s.data.toList.length ≤ 0x7ffffffff000 := of_decide_eq_true h
    have : s.data.toList.length = s.size := rfl
    omega
theorem weightsAll_mem {e : TypeId} : ∀ {ds : List (DataW H)}, (DataW.weightsAll P e ds).all (· ≤ reachBytes) = true → ∀ d ∈ ds, (DataW.weights P e d).all (· ≤ reachBytes) = true
  | [], _, _, hd => by cases hd
  | d :: ds, h, d', hd => by
    simp only [DataW.weightsAll, List.all_append, Bool.and_eq_true] at h
    rcases List.mem_cons.1 hd with rfl | hd
    · exact h.1
    · exact weightsAll_mem h.2 _ hd
theorem Rd.row {e : TypeId} {α : Type} (r : Rd enc P e α) {c n : Nat} {W : World} {held : Bool} {a : Addr} (hc : P.cellsOf e = c) : ∀ {xs : List (DataW H × List MemPlace)} {k : Nat},
    (∀ i, i < xs.length → (W.cells? 0 (a.add ((k + i) * c)) c).bind (DataW.trod enc P W 0 (fun _ => true) held n e) = xs[i]?) →
    ∃ (as : List α) (vs : List Value), xs.map (·.1) = as.map r.D ∧ Shs W (· < W.heap.size) (as.flatMap r.C) vs ∧ vs.length = xs.length * c ∧ as.length = xs.length ∧ ∀ j, j < vs.length → W.cell? (a.add (k * c + j)) = vs[j]?
  | [], k, _ => ⟨[], [], rfl, .nil, by simp, rfl, fun j hj => by simp at hj⟩
  | x :: xs, k, h => by
    have h0 := h 0 (by simp)
    rw [Nat.add_zero, List.getElem?_cons_zero, Option.bind_eq_some_iff] at h0
    obtain ⟨cs, hcs, hx⟩ := h0
    obtain ⟨-, hl, hcell⟩ := World.cells?_some hcs
    obtain ⟨a0, hd, hsh⟩ := r.read hx
    obtain ⟨as, vs, e1, e2, e3, e4, e5⟩ := Rd.row r hc (xs := xs) (k := k + 1) fun i hi => by
      have := h (i + 1) (by simpa using hi)
      rw [List.getElem?_cons_succ] at this
      rw [← this, show k + 1 + i = k + (i + 1) by omega]
    refine ⟨a0 :: as, cs ++ vs, by simp [hd, e1], by rw [List.flatMap_cons]; exact hsh.append e2, by rw [List.length_append, hl, e3, List.length_cons, Nat.succ_mul, Nat.add_comm], by simp [e4], fun j hj => ?_⟩
    by_cases hjc : j < c
    · rw [List.getElem?_append_left (by omega), ← hcell j hjc, Go.Addr.add_add]
    · rw [List.getElem?_append_right (by omega), hl, ← e5 (j - c) (by rw [List.length_append, hl] at hj; omega)]
      rw [Nat.succ_mul]
      congr 2
      omega
def Rd.slice {t e : TypeId} {α : Type} {c : Nat} (ht : P.underlying t = some (.slice e)) (r : Rd enc P e α) (hc : P.cellsOf e = c) (hb : 1 ≤ P.bytesOf e) : Rd enc P t (Option (List α) × List (DataW H)) where
  D o := match o.1 with | none => .nil | some xs => .slice (xs.map r.D) o.2
  C o := [.sl false c (o.1.getD []).length ((o.1.getD []).flatMap r.C)]
  big o := (o.1.getD []).length < 2 ^ 47 ∧ ∀ x ∈ o.1.getD [], r.big x
  read {W held fuel cs x} h := by
    rcases DataW.trod_slice ht h with ⟨rfl, rfl⟩ | ⟨a, len, cap, elems, rest, n, _, rfl, rfl, hb, hl, hm, hlen, hel, hsp, hns⟩
    · exact ⟨(none, []), rfl, .cons (.nil _ _) .nil⟩
    rw [hc] at hel
    obtain ⟨as, vs, e1, e2, e3, e4, e5⟩ := r.row hc (k := 0) (xs := elems) (W := W) (a := a) (n := n) fun i hi => by
      rw [Nat.zero_add]; exact hel i (by omega)
    refine ⟨(some as, rest.map (·.1)), by simp only; rw [e1], .cons ?_ .nil⟩
    simp only [Option.getD_some]
    rw [e4, hlen]
    have hfl := e2.length
    refine .sl (by rw [hfl, e3, hlen]) hl e2 fun hne => ?_
    have hne' : vs ≠ [] := fun e => hne (List.length_eq_zero_iff.1 (by rw [hfl, e]; rfl))
    have := row_cells (W := W) (a := a) hne' fun i hi => by rw [← e5 i hi, Nat.zero_mul, Nat.zero_add]
    rw [e3, hlen] at this
    exact this
  weigh o h := by
    obtain ⟨o, sp⟩ := o
    cases o with
    | none => exact ⟨by simp, fun x hx => by simp at hx⟩
    | some xs =>
      simp only [DataW.weights, ht, List.all_cons, List.all_append, Bool.and_eq_true, List.length_map] at h
      have h0 : (xs.length + sp.length) * P.bytesOf e ≤ 0x7ffffffff000 := of_decide_eq_true h.1
      refine ⟨?_, fun x hx => r.weigh x (weightsAll_mem h.2.1 _ (List.mem_map.2 ⟨x, hx, rfl⟩))⟩
      have h1 : xs.length + sp.length ≤ (xs.length + sp.length) * P.bytesOf e := Nat.le_mul_of_pos_right _ hb
      simp only [Option.getD_some]
      omega
def Rds.nil {tot : Nat} : Rds enc P [] tot tot Unit where
  D _ := []
  C _ := []
  big _ := True
  read {W held n cs xs} hl hx _ := ⟨(), by rw [List.length_eq_zero_iff.1 hx]; rfl, by rw [List.drop_eq_nil_of_le (by omega)]; exact .nil⟩
  weigh _ _ := trivial
def Rds.cons {f : Field} {fs : List Field} {o c tot : Nat} {α β : Type} (ho : f.offset = o) (hc : P.cellsOf f.type = c) (r : Rd enc P f.type α) (rs : Rds enc P fs (o + c) tot β) : Rds enc P (f :: fs) o tot (α × β) where
  D b := r.D b.1 :: rs.D b.2
  C b := r.C b.1 ++ rs.C b.2
  big b := r.big b.1 ∧ rs.big b.2
  read {W held n cs xs} hl hx h := by
    match xs, hx with
    | x :: xs, hx =>
      have h0 := h 0 f rfl
      rw [List.getElem?_cons_zero] at h0
      obtain ⟨a, ha, hs⟩ := r.read h0
      obtain ⟨b, hb, ht⟩ := rs.read hl (by simpa using hx) (n := n) (held := held) (W := W) (xs := xs) fun i g hg => by
        have := h (i + 1) g (by rw [List.getElem?_cons_succ]; exact hg)
        rw [List.getElem?_cons_succ] at this
        exact this
      refine ⟨(a, b), by simp [ha, hb], ?_⟩
      have := hs.append ht
      rw [ho, hc, ← List.drop_drop, List.take_append_drop] at this
      exact this
  weigh b h := by
    simp only [List.map_cons, DataW.weightsEach, List.all_append, Bool.and_eq_true] at h
    exact ⟨r.weigh _ h.1, rs.weigh _ h.2⟩
def Rd.struct {t : TypeId} {fs : Array Field} {tot : Nat} {β : Type} (ht : P.underlying t = some (.struct fs)) (hC : P.cellsOf t = tot) (rs : Rds enc P fs.toList 0 tot β) : Rd enc P t β where
  D b := .agg (rs.D b)
  C b := rs.C b
  big b := rs.big b
  read h := by
    obtain ⟨xs, n, _, rfl, hl, hlen, hf⟩ := DataW.trod_struct ht h
    obtain ⟨b, hb, hs⟩ := rs.read (by rw [hl, hC]) (xs := xs) (by simpa using hlen) fun i f hi => hf i f (by simpa using hi)
    exact ⟨b, by simp only; rw [hb], by simpa using hs⟩
  weigh b h := by
    simp only [DataW.weights, ht] at h
    exact rs.weigh _ h
/-- The reading of an argument. -/
theorem Rd.arg_agg {t : TypeId} {α : Type} {rc : Reach} {b0 : Nat} {W : World} {v : Value} {d : DataW H} {p : List MemPlace} {fs : Array Field} (r : Rd enc P t α) (hs : P.underlying t = some (.struct fs)) (hv : Value.okWide P W rc b0 t v) (h : DataW.Trod enc P W 0 (fun _ => true) true t v d p) :
    ∃ a, d = r.D a ∧ ShSV W (· < W.heap.size) (.agg (r.C a)) v := by
  obtain ⟨cs, rfl, -⟩ := okWide_struct hs hv
  obtain ⟨fuel, h⟩ := h
  obtain ⟨a, h1, h2⟩ := r.read h
  exact ⟨a, h1, cs, rfl, h2⟩
theorem Rd.arg_slice {t e : TypeId} {α : Type} {rc : Reach} {b0 : Nat} {W : World} {v : Value} {d : DataW H} {p : List MemPlace} (r : Rd enc P t α) (hs : P.underlying t = some (.slice e)) (hv : Value.okWide P W rc b0 t v) (h : DataW.Trod enc P W 0 (fun _ => true) true t v d p) :
    ∃ a, d = r.D a ∧ Shs W (· < W.heap.size) (r.C a) [v] := by
  obtain ⟨b, l, c, rfl⟩ := okWide_slice hs hv
  obtain ⟨fuel, h⟩ := h
  exact r.read h
theorem Shs.one {W : World} {Z : Nat → Prop} {x : Cell} {v : Value} (h : Shs W Z [x] [v]) : ShSV W Z (.one x) v := by
  cases h with
  | cons h _ => exact h
theorem Rd.arg_big {t : TypeId} {α : Type} (r : Rd enc P t α) {ts : List TypeId} {ds : List (DataW H)} {a : α} (h : (DataW.weightsEach P ts ds).all (· ≤ reachBytes) = true) {j : Nat} (ht : ts[j]? = some t) (hd : ds[j]? = some (r.D a)) : r.big a := by
  refine r.weigh a (List.all_eq_true.2 fun n hn => ?_)
  exact List.all_eq_true.1 h _ (DataW.weights_mem_each ht hd n hn)
/-- The numbers of a slice. -/
abbrev RInts (H : Type) := Option (List Int) × List (DataW H)
def intsOf (a : RInts H) : List Int := a.1.getD []
theorem intsOf_cell (a : RInts H) : Cell.sl false 1 (a.1.getD []).length ((a.1.getD []).flatMap fun n => [i64 n]) = ints (intsOf a) := by
  unfold ints intsOf
  rw [← List.map_eq_flatMap]
abbrev RRules (H : Type) := Option (List (RInts H × RInts H × Unit)) × List (DataW H)
def rulesOf (a : RRules H) : List (List Int × List Int) := (a.1.getD []).map fun r => (intsOf r.1, intsOf r.2.1)
theorem rulesOf_mem {a : RRules H} (h : ∀ x ∈ a.1.getD [], ((intsOf x.1).length < 2 ^ 47 ∧ ∀ n ∈ intsOf x.1, True) ∧ ((intsOf x.2.1).length < 2 ^ 47 ∧ ∀ n ∈ intsOf x.2.1, True) ∧ True) : ∀ r ∈ rulesOf a, r.1.length < 2 ^ 62 ∧ r.2.length < 2 ^ 62 := fun r hr => by
  obtain ⟨x, hx, rfl⟩ := List.mem_map.1 hr
  obtain ⟨h1, h2, -⟩ := h x hx
  exact ⟨by dsimp only; omega, by dsimp only; omega⟩
theorem rulesOf_cell (a : RRules H) : Cell.sl false 2 (a.1.getD []).length ((a.1.getD []).flatMap fun r => [Cell.sl false 1 (r.1.1.getD []).length ((r.1.1.getD []).flatMap fun n => [i64 n])] ++ ([Cell.sl false 1 (r.2.1.1.getD []).length ((r.2.1.1.getD []).flatMap fun n => [i64 n])] ++ [])) =
    .sl false 2 (rulesOf a).length ((rulesOf a).flatMap fun r => [ints r.1, ints r.2]) := by
  unfold rulesOf
  rw [List.length_map, List.flatMap_map]
  congr 1
  refine congrArg (fun f => List.flatMap f (a.1.getD [])) (funext fun r => ?_)
  rw [← intsOf_cell, ← intsOf_cell]
  rfl
/-- Slices of slices of numbers. -/
abbrev RIntss (H : Type) := Option (List (RInts H)) × List (DataW H)
def intssOf (a : RIntss H) : List (List Int) := (a.1.getD []).map intsOf
theorem intssOf_mem {a : RIntss H} (h : ∀ x ∈ a.1.getD [], ((intsOf x).length < 2 ^ 47 ∧ ∀ n ∈ intsOf x, True)) : ∀ r ∈ intssOf a, r.length < 2 ^ 62 := fun r hr => by
  obtain ⟨x, hx, rfl⟩ := List.mem_map.1 hr
  obtain ⟨h1, -⟩ := h x hx
  omega
theorem intssOf_cell (a : RIntss H) : Cell.sl false 1 (a.1.getD []).length ((a.1.getD []).flatMap fun r => [Cell.sl false 1 (r.1.getD []).length ((r.1.getD []).flatMap fun n => [i64 n])]) =
    .sl false 1 (intssOf a).length ((intssOf a).map ints) := by
  unfold intssOf
  rw [List.length_map, List.map_map, List.map_eq_flatMap]
  congr 1
  refine congrArg (fun f => List.flatMap f (a.1.getD [])) (funext fun r => ?_)
  rw [intsOf_cell]
  rfl
/-- A number that its kind can hold. -/
abbrev IntW (k : IntKind) := { n : Int // (Lit.int k n).wf = true }
def Rd.intW {enc : TypeId × Value → H} {P : Program} {t : TypeId} {k : IntKind} (ht : P.underlying t = some (.int k)) : Rd enc P t (IntW k) where
  D n := .lit (.int k n.1)
  C n := [.c (.int k n.1)]
  big _ := True
  read h := by
    obtain ⟨n, rfl, rfl, hw⟩ := DataW.trod_int ht h
    exact ⟨⟨n, hw⟩, rfl, .cons (.c _) .nil⟩
  weigh _ _ := trivial
/-- Bytes. -/
def u8c (n : Int) : Cell := .c (.int .u8 n)
def byC (bs : List Int) : Cell := .sl false 1 bs.length (bs.map u8c)
def Byts (bs : List Int) : Prop := ∀ b ∈ bs, 0 ≤ b ∧ b < 256
abbrev RByts (H : Type) := Option (List (IntW .u8)) × List (DataW H)
def bytsOf (a : RByts H) : List Int := (a.1.getD []).map (·.1)
theorem bytsOf_cell (a : RByts H) : Cell.sl false 1 (a.1.getD []).length ((a.1.getD []).flatMap fun n => [.c (.int .u8 n.1)]) = byC (bytsOf a) := by
  unfold byC bytsOf
  rw [List.length_map, List.map_map, List.map_eq_flatMap]
  rfl
theorem bytsOf_ok (a : RByts H) : Byts (bytsOf a) := fun b hb => by
  obtain ⟨⟨n, this⟩, -, rfl⟩ := List.mem_map.1 hb
  simp only [Lit.wf, Bool.and_eq_true, decide_eq_true_eq] at this
  have h1 : IntKind.u8.min = 0 := by decide
  have h2 : IntKind.u8.max = 255 := by decide
  rw [h1, h2] at this
  show 0 ≤ n ∧ n < 256
  omega
end
end Go.Den

/- Contracts that say less: results that read as less, arguments that read as more. -/
namespace Go.Den

/-- Whatever is x is y. -/
def OLe (x y : Cell) : Prop := ∀ (w : World) (Z : Nat → Prop) (v : Value) (l : List Nat), Ow w Z x v l → Ow w Z y v l
inductive OLes : List Cell → List Cell → Prop
  | nil : OLes [] []
  | cons {x y : Cell} {xs ys : List Cell} (h : OLe x y) (t : OLes xs ys) : OLes (x :: xs) (y :: ys)
theorem OLe.refl (x : Cell) : OLe x x := fun _ _ _ _ h => h
theorem OLe.trans {x y z : Cell} (h : OLe x y) (k : OLe y z) : OLe x z := fun w Z v l hx => k w Z v l (h w Z v l hx)
theorem OLes.refl : ∀ xs : List Cell, OLes xs xs
  | [] => .nil
  | x :: xs => .cons (.refl x) (.refl xs)
theorem OLes.ows : ∀ {xs ys : List Cell}, OLes xs ys → ∀ {w : World} {Z : Nat → Prop} {vs : List Value} {l : List Nat}, Ows w Z xs vs l → Ows w Z ys vs l
  | _, _, .nil, _, _, _, _, h => h
  | _, _, .cons hx ht, _, _, _, _, .cons h t => .cons (hx _ _ _ _ h) (ht.ows t)
theorem OLes.length : ∀ {xs ys : List Cell}, OLes xs ys → xs.length = ys.length
  | _, _, .nil => rfl
  | _, _, .cons _ t => by simp [t.length]
theorem OLes.map {α : Type} {f g : α → Cell} {xs : List α} (h : ∀ x ∈ xs, OLe (f x) (g x)) : OLes (xs.map f) (xs.map g) := by
  induction xs with
  | nil => exact .nil
  | cons x xs ih => exact .cons (h x (by simp)) (ih fun y hy => h y (by simp [hy]))
theorem OLe.nil (es : Bool) (sz : Nat) : OLe (.c (.slice none 0 0)) (.sl es sz 0 []) := fun w Z v l h => by
  cases h
  exact .nil _ _ _
theorem OLe.sl {sz n : Nat} {xs ys : List Cell} (h : OLes xs ys) : OLe (.sl false sz n xs) (.sl false sz n ys) := fun w Z v l hv => by
  have hl := h.length
  cases hv with
  | sl hh hlen hroom hcap hmax hvs hc => exact .sl hh (by rw [← hl]; exact hlen) hroom hcap hmax hvs (h.ows hc)
  | nil =>
    cases h
    exact .nil _ _ _
theorem OLe.ptr {xs ys : List Cell} (h : OLes xs ys) : OLe (.ptr xs) (.ptr ys) := fun w Z v l hv => by
  cases hv with
  | ptr hh hc => exact .ptr hh (h.ows hc)
inductive VLe : SV → SV → Prop
  | refl (v : SV) : VLe v v
  | one {x y : Cell} (h : OLe x y) : VLe (.one x) (.one y)
  | agg {xs ys : List Cell} (h : OLes xs ys) : VLe (.agg xs) (.agg ys)
  | tup0 {v w : List (Bool × List Cell)} (h : VLe (.tup v) (.tup w)) (b : Bool × List Cell) : VLe (.tup (b :: v)) (.tup (b :: w))
  | tup1 {v w : List (Bool × List Cell)} {x y : Cell} (h : OLe x y) (t : VLe (.tup v) (.tup w)) : VLe (.tup ((false, [x]) :: v)) (.tup ((false, [y]) :: w))
theorem VLe.ow : ∀ {x y : SV}, VLe x y → ∀ {w : World} {Z : Nat → Prop} {v : Value} {l : List Nat}, OwSV w Z x v l → OwSV w Z y v l
  | _, _, .refl _, _, _, _, _, h => h
  | _, _, .one h, _, _, _, _, hx => h _ _ _ _ hx
  | _, _, .agg h, _, _, _, _, ⟨us, e, hx⟩ => ⟨us, e, h.ows hx⟩
  | _, _, .tup0 h (b, xs), w, Z, v, l, ⟨us, e, hx⟩ => by
    obtain ⟨us⟩ := us
    refine ⟨_, e, ?_⟩
    cases us with
    | nil => cases b <;> exact hx.elim
    | cons u us =>
      cases b with
      | true =>
        obtain ⟨us', l1, l2, e1, h1, h2, h3⟩ := hx
        obtain ⟨_, e2, h4⟩ := h.ow (w := w) (Z := Z) (v := .tuple us.toArray) ⟨_, rfl, h2⟩
        cases e2
        exact ⟨us', l1, l2, e1, h1, h4, h3⟩
      | false =>
        obtain ⟨us', l1, l2, e1, h1, h2, h3⟩ := hx
        obtain ⟨_, e2, h4⟩ := h.ow (w := w) (Z := Z) (v := .tuple us.toArray) ⟨_, rfl, h2⟩
        cases e2
        exact ⟨us', l1, l2, e1, h1, h4, h3⟩
  | _, _, .tup1 hx t, w, Z, v, l, ⟨us, e, h⟩ => by
    obtain ⟨us⟩ := us
    refine ⟨_, e, ?_⟩
    cases us with
    | nil => exact h.elim
    | cons u us =>
      obtain ⟨x', l1, l2, e1, h1, h2, h3⟩ := h
      cases e1
      obtain ⟨_, e2, h4⟩ := t.ow (w := w) (Z := Z) (v := .tuple us.toArray) ⟨_, rfl, h2⟩
      cases e2
      exact ⟨_, l1, l2, rfl, hx _ _ _ _ h1, h4, h3⟩
inductive VLes : List SV → List SV → Prop
  | refl (vs : List SV) : VLes vs vs
  | cons {x y : SV} {xs ys : List SV} (h : VLe x y) (t : VLes xs ys) : VLes (x :: xs) (y :: ys)
theorem VLes.outs : ∀ {xs ys : List SV}, VLes xs ys → ∀ {as : List Arg} {w : World} {Z : Nat → Prop} {vs : List Value} {l : List Nat}, OutsRel w Z as vs xs l → OutsRel w Z as vs ys l
  | _, _, .refl _, _, _, _, _, _, h => h
  | _, _, .cons hx t, [], w, Z, vs, l, h => by simp [OutsRel] at h
  | _, _, .cons hx t, a :: as, w, Z, [], l, h => h.elim
  | _, _, .cons hx t, a :: as, w, Z, v :: vs, l, h => by
    simp only [OutsRel] at h ⊢
    split at h
    · obtain ⟨o, os', l1, l2, h1, h2, h3, h4⟩ := h
      cases h1
      exact ⟨_, _, l1, l2, rfl, hx.ow h2, t.outs h3, h4⟩
    · exact VLes.outs (.cons hx t) h
/-- A result that reads as less. -/
theorem Ret.relax {P : Program} {G : Nat → Option (List Value)} {f : FuncId} {as : List Arg} {v v' : SV} {os os' : List SV} (h : Ret P G f as ⟨v, os⟩) (hv : VLe v v') (ho : VLes os os') : Ret P G f as ⟨v', os'⟩ := fun w Z vs l hG hZ ha hl hb => by
  refine (h w Z vs l hG hZ ha hl hb).mono fun v w' hr => ?_
  obtain ⟨Z', lr, lo, h1, h2, h3, h4, h5, h6⟩ := hr
  exact ⟨Z', lr, lo, h1, h2, h3, hv.ow h4, ho.outs h5, h6⟩
/-- Arguments that read as more. -/
inductive LeOs : List Arg → List Arg → Prop
  | nil : LeOs [] []
  | same (a : Arg) {as bs : List Arg} (t : LeOs as bs) : LeOs (a :: as) (a :: bs)
  | ro {x y : Cell} {as bs : List Arg} (h : CLe x y) (t : LeOs as bs) : LeOs (⟨.ro, .one x⟩ :: as) (⟨.ro, .one y⟩ :: bs)
  | ow {m : PM} {x y : SV} {as bs : List Arg} (hm : m ≠ .ro) (h : VLe y x) (t : LeOs as bs) : LeOs (⟨m, x⟩ :: as) (⟨m, y⟩ :: bs)
theorem LeOs.args : ∀ {as bs : List Arg}, LeOs as bs → ∀ {w : World} {Z : Nat → Prop} {vs : List Value} {l : List Nat}, ArgsRel w Z bs vs l → ArgsRel w Z as vs l
  | _, _, .nil, _, _, _, _, h => h
  | _, _, .same a t, _, _, v :: vs, l, ⟨l1, l2, h1, h2, h3⟩ => ⟨l1, l2, h1, t.args h2, h3⟩
  | _, _, .ro h t, w, Z, v :: vs, l, ⟨l1, l2, ⟨h1, h1'⟩, h2, h3⟩ => ⟨l1, l2, ⟨h w Z v h1, h1'⟩, t.args h2, h3⟩
  | _, _, .ow (m := m) hm h t, w, Z, v :: vs, l, ⟨l1, l2, h1, h2, h3⟩ => ⟨l1, l2, by
    cases m with
    | ro => exact absurd rfl hm
    | _ => exact h.ow h1, t.args h2, h3⟩
  | _, _, .same a t, _, _, [], l, h => h.elim
  | _, _, .ro h t, w, Z, [], l, h' => h'.elim
  | _, _, .ow _ h t, w, Z, [], l, h' => h'.elim
theorem LeOs.outs : ∀ {as bs : List Arg}, LeOs as bs → ∀ {w : World} {Z : Nat → Prop} {vs : List Value} {os : List SV} {l : List Nat}, OutsRel w Z as vs os l → OutsRel w Z bs vs os l
  | _, _, .nil, _, _, _, _, _, h => h
  | _, _, .same a t, _, _, v :: vs, os, l, h => by
    simp only [OutsRel] at h ⊢
    split at h
    · obtain ⟨o, os', l1, l2, h1, h2, h3, h4⟩ := h
      exact ⟨o, os', l1, l2, h1, h2, t.outs h3, h4⟩
    · exact t.outs h
  | _, _, .ro _ t, _, _, v :: vs, os, l, h => t.outs (vs := vs) h
  | _, _, .ow _ _ t, _, _, v :: vs, os, l, h => by
    simp only [OutsRel] at h ⊢
    split at h
    · obtain ⟨o, os', l1, l2, h1, h2, h3, h4⟩ := h
      exact ⟨o, os', l1, l2, h1, h2, t.outs h3, h4⟩
    · exact t.outs h
  | _, _, .same a t, _, _, [], _, l, h => h.elim
  | _, _, .ro h t, w, Z, [], _, l, h' => h'.elim
  | _, _, .ow _ h t, w, Z, [], _, l, h' => h'.elim
theorem Ret.args {P : Program} {G : Nat → Option (List Value)} {f : FuncId} {as bs : List Arg} {res : Res} (h : Ret P G f as res) (hle : LeOs as bs) : Ret P G f bs res := fun w Z vs l hG hZ ha hl hb => by
  refine (h w Z vs l hG hZ (hle.args ha) hl hb).mono fun v w' hr => ?_
  obtain ⟨Z', lr, lo, h1, h2, h3, h4, h5, h6⟩ := hr
  exact ⟨Z', lr, lo, h1, h2, h3, h4, hle.outs h5, h6⟩
/-- An empty slice to read, by its value. -/
theorem Ret.empty {P : Program} {G : Nat → Option (List Value)} {f : FuncId} {es : Bool} {sz : Nat} {as : List Arg} {res : Res} (h : ∀ a c, Ret P G f (⟨.ro, .one (.c (.slice a 0 c))⟩ :: as) res) : Ret P G f (⟨.ro, .one (.sl es sz 0 [])⟩ :: as) res := fun w Z vs l hG hZ ha hl hb => by
  match vs, ha with
  | v :: vs, ⟨l1, l2, ⟨h1, h1'⟩, h2, h3⟩ =>
    have h1s : Sh w Z (.sl es sz 0 []) v := h1
    obtain ⟨a, c, rfl, -⟩ := h1s.sl_val
    refine (h a c w Z (_ :: vs) l hG hZ ⟨l1, l2, ⟨Sh.c _, h1'⟩, h2, h3⟩ hl hb).mono fun v w' hr => ?_
    obtain ⟨Z', lr, lo, k1, k2, k3, k4, k5, k6⟩ := hr
    exact ⟨Z', lr, lo, k1, k2, k3, k4, k5, k6⟩
end Go.Den

/- Contracts that say that there is a result: one way through code can be chosen. -/
namespace Go.Den

section
variable {E : Env} {C : FuncId → List Arg → Res → Prop} {α : Type}
theorem run_wpX : ∀ {m : AM α} {s : List Ent} {r' t' : List Nat} {x : α} {s' : List Ent}, Run C m s r' t' x s' →
    ∀ (r t : List Nat) (K : α → List Ent → List Nat → List Nat → Prop), K x s' (r'.reverse ++ r) (t'.reverse ++ t) → wp C m s r t K
  | .ret a, _, _, _, _, _, ⟨hr, ht, hx, h⟩, r, t, K, hk => by subst hr ht hx h; exact hk
  | .get i k, s, _, t', x, s', ⟨e, r', he, hr, h⟩, r, t, K, hk => by
    subst hr
    simp only [wp, he]
    exact run_wpX h _ _ K (by simpa using hk)
  | .put i e k, s, _, _, x, s', ⟨e0, r', t', hi, hr, ht, h⟩, r, t, K, hk => by
    subst hr ht
    simp only [wp, hi]
    exact run_wpX h _ _ K (by simpa using hk)
  | .getS i k, s, _, t', x, s', ⟨e, r', he, hr, h⟩, r, t, K, hk => by
    subst hr
    simp only [wp, he]
    exact run_wpX h _ _ K (by simpa using hk)
  | .putR i rs k, s, _, _, x, s', ⟨e0, r', t', hi, hr, ht, h⟩, r, t, K, hk => by
    subst hr ht
    simp only [wp, hi]
    exact run_wpX h _ _ K (by simpa using hk)
  | .test p k, s, _, _, x, s', ⟨hp, h⟩, r, t, K, hk => ⟨hp, run_wpX h _ _ K hk⟩
  | .ite true m n, s, _, _, x, s', h, r, t, K, hk => .t (run_wpX (m := m) h _ _ K hk)
  | .ite false m n, s, _, _, x, s', h, r, t, K, hk => .f (run_wpX (m := n) h _ _ K hk)
  | .pick o k, s, _, _, x, s', ⟨c, hc, h⟩, r, t, K, hk => by subst hc; exact run_wpX h _ _ K hk
  | .picks o n k, s, _, _, x, s', ⟨c, hc, h⟩, r, t, K, hk => ⟨c, hc, run_wpX h _ _ K hk⟩
  | .str cs k, s, _, _, x, s', ⟨c, hc, h⟩, r, t, K, hk => ⟨c, hc, run_wpX h _ _ K hk⟩
  | .opt (some c) k n, s, _, _, x, s', h, r, t, K, hk => ⟨_, rfl, .s (run_wpX (m := k c) h _ _ K hk)⟩
  | .opt none k n, s, _, _, x, s', h, r, t, K, hk => ⟨_, rfl, .n (run_wpX (m := n) h _ _ K hk)⟩
  | .call f as k, s, _, _, x, s', ⟨c, hc, h⟩, r, t, K, hk => ⟨c, hc, run_wpX h _ _ K hk⟩
  | .all p k, s, _, _, x, s', ⟨r', hp, hr, h⟩, r, t, K, hk => by
    subst hr
    exact ⟨hp, run_wpX h _ _ K (by simpa using hk)⟩
  | .fail, _, _, _, _, _, h, _, _, _, _ => h.elim
theorem wp_choose {m : AM α} {s : List Ent} {r t : List Nat} {K : α → List Ent → List Nat → List Nat → Prop} (h : wp C m s r t K) : ∃ x s' r1 t1, K x s' r1 t1 ∧ wp C m s r t fun x' s'' r'' t'' => x' = x ∧ s'' = s' ∧ r'' = r1 ∧ t'' = t1 := by
  obtain ⟨r', t', x, s', h1, h2⟩ := wp_run C m s r t K h
  exact ⟨x, s', _, _, h2, run_wpX h1 _ _ _ ⟨rfl, rfl, rfl, rfl⟩⟩
theorem wp_mono {m : AM α} {s : List Ent} {r t : List Nat} {K K' : α → List Ent → List Nat → List Nat → Prop} (h : wp C m s r t K) (hk : ∀ x s' r' t', K x s' r' t' → K' x s' r' t') : wp C m s r t K' := by
  obtain ⟨r', t', x, s', h1, h2⟩ := wp_run C m s r t K h
  exact run_wpX h1 _ _ _ (hk _ _ _ _ h2)
theorem wpOps_mono {ops : Array Oper} : ∀ (os : List Oper) {s : List Ent} {l : List (List Nat × List Nat)} {K K' : List Ent → List (List Nat × List Nat) → Prop}, wpOps E C ops os s l K → (∀ s' l', K s' l' → K' s' l') → wpOps E C ops os s l K'
  | [], _, _, _, _, h, hk => hk _ _ h
  | o :: os, _, _, _, _, h, hk => wp_mono (h : wp C _ _ _ _ _) fun _ _ _ _ ⟨s2, hs, h2⟩ => ⟨s2, hs, wpOps_mono os h2 hk⟩
theorem wpOps_choose {ops : Array Oper} : ∀ (os : List Oper) {s : List Ent} {l : List (List Nat × List Nat)} {K : List Ent → List (List Nat × List Nat) → Prop}, wpOps E C ops os s l K → ∃ s' l', K s' l' ∧ wpOps E C ops os s l fun s1 l1 => s1 = s' ∧ l1 = l'
  | [], s, l, _, h => ⟨s, l, h, rfl, rfl⟩
  | o :: os, _, _, _, h => by
    obtain ⟨x, s', r1, t1, ⟨s2, rfl, h2⟩, h3⟩ := wp_choose (h : wp C _ _ _ _ _)
    obtain ⟨s4, l4, h4, h5⟩ := wpOps_choose os h2
    exact ⟨s4, l4, h4, wp_mono h3 fun _ _ _ _ ⟨_, e1, e2, e3⟩ => by subst e1 e2 e3; exact ⟨_, rfl, h5⟩⟩
theorem den_mono : ∀ (c : Code) {s : List Ent} {K K' : DExit → List Ent → Prop}, den E C c s K → (∀ e s', K e s' → K' e s') → den E C c s K'
  | .skip, _, _, _, h, hk => hk _ _ h
  | .region _ ops draw, _, _, _, h, hk => by
    refine wpOps_mono _ (h : wpOps E C _ _ _ _ _) fun s' l' h' => ?_
    cases draw with
    | true => exact ⟨h'.1, hk _ _ h'.2⟩
    | false => exact hk _ _ h'
  | .seq a b, _, _, _, h, hk => by
    refine den_mono a (h : den E C a _ _) fun e s' h' => ?_
    cases e with
    | normal => exact den_mono b h' hk
    | exit _ => exact hk _ _ h'
    | ret => exact hk _ _ h'
  | .cond c x y, s, K, K', h, hk => by
    cases c with
    | tmp t =>
      have h : (if t < E.n then (match s[t]? with
        | some ⟨.one (.c (.bool b)), _⟩ => iteP b (den E C x s K) (den E C y s K)
        | _ => False) else False) := h
      show (if t < E.n then (match s[t]? with
        | some ⟨.one (.c (.bool b)), _⟩ => iteP b (den E C x s K') (den E C y s K')
        | _ => False) else False)
      split at h
      · rename_i ht
        rw [if_pos ht]
        split at h
        · rename_i b _ he
          try simp only [he]
          cases h with
          | t h => exact .t (den_mono x h hk)
          | f h => exact .f (den_mono y h hk)
        · exact h.elim
      · exact h.elim
    | const v => cases v with
      | bool b =>
        have h : iteP b (den E C x s K) (den E C y s K) := h
        show iteP b (den E C x s K') (den E C y s K')
        cases h with
        | t h => exact .t (den_mono x h hk)
        | f h => exact .f (den_mono y h hk)
      | _ => exact (h : False).elim
    | _ => exact (h : False).elim
  | .block id b, _, K, _, h, hk => by
    refine den_mono b (h : den E C b _ _) fun e s' h' => ?_
    cases e with
    | exit id' =>
      have h' : (if id' = id then K .normal s' else K (.exit id') s') := h'
      split at h'
      · rename_i e; show (if id' = id then _ else _); rw [if_pos e]; exact hk _ _ h'
      · rename_i e; show (if id' = id then _ else _); rw [if_neg e]; exact hk _ _ h'
    | normal => exact hk _ _ h'
    | ret => exact hk _ _ h'
  | .loop b, _, _, _, ⟨J, h1, h2, h3⟩, hk => ⟨J, h1, h2, fun k vs hj => by
    obtain ⟨s0, e0, h4⟩ := h3 k vs hj
    refine ⟨s0, e0, den_mono b h4 fun e s' h' => ?_⟩
    cases e with
    | normal => exact h'
    | exit _ => exact hk _ _ h'
    | ret => exact hk _ _ h'⟩
  | .exit _, _, _, _, h, hk => hk _ _ h
  | .ret, _, _, _, h, hk => hk _ _ h
/-- A way through a loop, from what is live at its head to its end. -/
inductive Way (E : Env) (C : FuncId → List Arg → Res → Prop) (b : Code) (n : Nat) (e1 : DExit) (s1 : List Ent) : Nat → List SV → Prop
  | stop {k : Nat} {vs : List SV} (hne : e1 ≠ .normal) (h : den E C b (restore n (E.live (firstId b)) vs) fun e s' => e = e1 ∧ s' = s1) : Way E C b n e1 s1 k vs
  | step {k k' : Nat} {vs vs' : List SV} (hk : k' < k) (h : den E C b (restore n (E.live (firstId b)) vs) fun e s' => e = .normal ∧ wp C (liveAM (E.live (firstId b)) .ret) s' [] [] fun us _ _ _ => cvt (E.nils (firstId b)) (E.live (firstId b)) us = vs')
      (t : Way E C b n e1 s1 k' vs') : Way E C b n e1 s1 k vs
theorem den_choose : ∀ (c : Code) {s : List Ent} {K : DExit → List Ent → Prop}, den E C c s K → ∃ e s', K e s' ∧ den E C c s fun e1 s1 => e1 = e ∧ s1 = s'
  | .skip, s, _, h => ⟨.normal, s, h, rfl, rfl⟩
  | .region _ ops draw, _, _, h => by
    obtain ⟨s', l', h1, h2⟩ := wpOps_choose _ (h : wpOps E C _ _ _ _ _)
    cases draw with
    | true => exact ⟨.normal, s', h1.2, wpOps_mono _ h2 fun _ _ ⟨e1, e2⟩ => by subst e1 e2; exact ⟨h1.1, rfl, rfl⟩⟩
    | false => exact ⟨.normal, s', h1, wpOps_mono _ h2 fun _ _ ⟨e1, e2⟩ => by subst e1 e2; exact ⟨rfl, rfl⟩⟩
  | .seq a b, _, _, h => by
    obtain ⟨e, s', h1, h2⟩ := den_choose a (h : den E C a _ _)
    cases e with
    | normal =>
      obtain ⟨e3, s3, h3, h4⟩ := den_choose b h1
      exact ⟨e3, s3, h3, den_mono a h2 fun _ _ ⟨e1, e2⟩ => by subst e1 e2; exact h4⟩
    | exit i => exact ⟨.exit i, s', h1, den_mono a h2 fun _ _ ⟨e1, e2⟩ => by subst e1 e2; exact ⟨rfl, rfl⟩⟩
    | ret => exact ⟨.ret, s', h1, den_mono a h2 fun _ _ ⟨e1, e2⟩ => by subst e1 e2; exact ⟨rfl, rfl⟩⟩
  | .cond c x y, s, K, h => by
    cases c with
    | tmp t =>
      have h : (if t < E.n then (match s[t]? with
        | some ⟨.one (.c (.bool b)), _⟩ => iteP b (den E C x s K) (den E C y s K)
        | _ => False) else False) := h
      have goal : ∀ K' : DExit → List Ent → Prop, (if t < E.n then (match s[t]? with
        | some ⟨.one (.c (.bool b)), _⟩ => iteP b (den E C x s K') (den E C y s K')
        | _ => False) else False) → den E C (.cond (.tmp t) x y) s K' := fun K' h => h
      split at h
      · rename_i ht
        split at h
        · rename_i b _ he
          cases h with
          | t h =>
            obtain ⟨e3, s3, h3, h4⟩ := den_choose x h
            exact ⟨e3, s3, h3, goal _ (by rw [if_pos ht]; simp only [he]; exact .t h4)⟩
          | f h =>
            obtain ⟨e3, s3, h3, h4⟩ := den_choose y h
            exact ⟨e3, s3, h3, goal _ (by rw [if_pos ht]; simp only [he]; exact .f h4)⟩
        · exact h.elim
      · exact h.elim
    | const v => cases v with
      | bool b =>
        have h : iteP b (den E C x s K) (den E C y s K) := h
        have goal : ∀ K' : DExit → List Ent → Prop, iteP b (den E C x s K') (den E C y s K') → den E C (.cond (.const (.bool b)) x y) s K' := fun K' h => h
        cases h with
        | t h =>
          obtain ⟨e3, s3, h3, h4⟩ := den_choose x h
          exact ⟨e3, s3, h3, goal _ (.t h4)⟩
        | f h =>
          obtain ⟨e3, s3, h3, h4⟩ := den_choose y h
          exact ⟨e3, s3, h3, goal _ (.f h4)⟩
      | _ => exact (h : False).elim
    | _ => exact (h : False).elim
  | .block id b, _, K, h => by
    obtain ⟨e, s', h1, h2⟩ := den_choose b (h : den E C b _ _)
    cases e with
    | exit id' =>
      have h1 : (if id' = id then K .normal s' else K (.exit id') s') := h1
      split at h1
      · rename_i e
        exact ⟨.normal, s', h1, den_mono b h2 fun _ _ ⟨e1, e2⟩ => by subst e1 e2; show (if id' = id then _ else _); rw [if_pos e]; exact ⟨rfl, rfl⟩⟩
      · rename_i e
        exact ⟨.exit id', s', h1, den_mono b h2 fun _ _ ⟨e1, e2⟩ => by subst e1 e2; show (if id' = id then _ else _); rw [if_neg e]; exact ⟨rfl, rfl⟩⟩
    | normal => exact ⟨.normal, s', h1, den_mono b h2 fun _ _ ⟨e1, e2⟩ => by subst e1 e2; exact ⟨rfl, rfl⟩⟩
    | ret => exact ⟨.ret, s', h1, den_mono b h2 fun _ _ ⟨e1, e2⟩ => by subst e1 e2; exact ⟨rfl, rfl⟩⟩
  | .loop b, s, K, ⟨J, h1, h2, h3⟩ => by
    have way : ∀ (k : Nat) (vs : List SV), J k vs → ∃ e1 s1, K e1 s1 ∧ Way E C b s.length e1 s1 k vs := fun k => by
      induction k using Nat.strongRecOn with
      | _ k ih =>
        intro vs hj
        obtain ⟨s0, rfl, h4⟩ := h3 k vs hj
        obtain ⟨e, s', h5, h6⟩ := den_choose b h4
        cases e with
        | normal =>
          obtain ⟨us, s3, r3, t3, ⟨k', hk', hj'⟩, h7⟩ := wp_choose (h5 : wp C _ _ _ _ _)
          obtain ⟨e1, s1, h8, h9⟩ := ih k' hk' _ hj'
          exact ⟨e1, s1, h8, .step hk' (den_mono b h6 fun _ _ ⟨e1, e2⟩ => by subst e1 e2; exact ⟨rfl, wp_mono h7 fun _ _ _ _ ⟨e3, _⟩ => by subst e3; rfl⟩) h9⟩
        | exit i => exact ⟨.exit i, s', h5, .stop (by simp) h6⟩
        | ret => exact ⟨.ret, s', h5, .stop (by simp) h6⟩
    obtain ⟨us, s3, r3, t3, ⟨k, hj⟩, h7⟩ := wp_choose h2
    obtain ⟨e1, s1, h8, h9⟩ := way k _ hj
    refine ⟨e1, s1, h8, fun k vs => Way E C b s.length e1 s1 k vs, h1, wp_mono h7 fun _ _ _ _ ⟨e3, _⟩ => by subst e3; exact ⟨k, h9⟩, fun k vs hw => ⟨_, rfl, ?_⟩⟩
    cases hw with
    | stop hne h =>
      refine den_mono b h fun e s' ⟨e1, e2⟩ => ?_
      subst e1 e2
      cases e with
      | normal => exact absurd rfl hne
      | exit _ => exact ⟨rfl, rfl⟩
      | ret => exact ⟨rfl, rfl⟩
    | step hk h t =>
      refine den_mono b h fun e s' ⟨e1, e2⟩ => ?_
      subst e1
      exact wp_mono e2 fun us _ _ _ e3 => by subst e3; exact ⟨_, hk, t⟩
  | .exit _, s, _, h => ⟨_, s, h, rfl, rfl⟩
  | .ret, s, _, h => ⟨_, s, h, rfl, rfl⟩
/-- The computed precondition of a function whose result is some that Q holds of. -/
def fnDenE (E : Env) (C : FuncId → List Arg → Res → Prop) (c : Code) (rs : List ResultVar) (as : List Arg) (Q : Res → Prop) : Prop :=
  as.length ≤ E.n ∧ ∃ s0, entry E.n as = s0 ∧ den E C c s0 fun d s => match d with
    | .exit _ => False
    | _ => wp C (retAM E rs (List.range' E.n (nmu as))) s [] [] fun r _ _ _ => Q r
theorem fnDen_of {c : Code} {rs : List ResultVar} {as : List Arg} {Q : Res → Prop} (h : fnDenE E C c rs as Q) : ∃ res, Q res ∧ fnDen E C c rs as res := by
  obtain ⟨h1, s0, rfl, h2⟩ := h
  obtain ⟨e, s', h3, h4⟩ := den_choose c h2
  cases e with
  | exit _ => exact h3.elim
  | normal =>
    obtain ⟨x, s3, r3, t3, hq, h5⟩ := wp_choose (h3 : wp C _ _ _ _ _)
    exact ⟨x, hq, h1, _, rfl, den_mono c h4 fun _ _ ⟨e1, e2⟩ => by subst e1 e2; exact wp_mono h5 fun _ _ _ _ ⟨e3, _⟩ => e3⟩
  | ret =>
    obtain ⟨x, s3, r3, t3, hq, h5⟩ := wp_choose (h3 : wp C _ _ _ _ _)
    exact ⟨x, hq, h1, _, rfl, den_mono c h4 fun _ _ ⟨e1, e2⟩ => by subst e1 e2; exact wp_mono h5 fun _ _ _ _ ⟨e3, _⟩ => e3⟩
/-- There is a result. -/
theorem rete_of_den {P : Program} (hT : TabOK P E.T) (hm : P.follows .mixedOrders = true) {f : FuncId} {fn : Func} {c : Code} (hf : P.funcs[f]? = some fn) (hb : fn.body = some c) (hname : (fn.name == "runtime.NumGoroutine") = false)
    (hn : E.n = fn.ntmps) {rs : List ResultVar} (hrs : fn.results.toList = rs) {args : List Arg} {Q : Res → Prop} (hden : fnDenE E (Ret P E.G) c rs args Q) : ∃ res, Q res ∧ Ret P E.G f args res := by
  obtain ⟨res, hq, h⟩ := fnDen_of hden
  exact ⟨res, hq, ret_of_den hT hm hf hb hname hn hrs h⟩
end
end Go.Den

/- Code that has more than one way out is told once. -/
namespace Go.Den
theorem den_cut {E : Env} {C : FuncId → List Arg → Res → Prop} {c : Code} {s : List Ent} {K : DExit → List Ent → Prop} (Q : DExit → List Ent → Prop) (h1 : den E C c s Q) (h2 : ∀ e s', Q e s' → K e s') : den E C c s K := den_mono c h1 h2
theorem ite_cut {E : Env} {C : FuncId → List Arg → Res → Prop} {b : Bool} {x y : Code} {s : List Ent} {K : DExit → List Ent → Prop} (Q : DExit → List Ent → Prop) (h1 : iteP b (den E C x s Q) (den E C y s Q)) (h2 : ∀ e s', Q e s' → K e s') : iteP b (den E C x s K) (den E C y s K) := by
  cases h1 with
  | t h => exact .t (den_mono x h h2)
  | f h => exact .f (den_mono y h h2)
/-- A slot that nothing is told of. -/
abbrev ded : Ent := ⟨.dead, []⟩
theorem cut_go {A : Type} {F : A → Prop} {p : A → (Nat → Ent) → List Ent} {e : DExit} {S : List Ent} (a : A) (hf : F a) (h : S = p a (fun i => S.getD i ded)) : ∃ (a : A) (J : Nat → Ent), F a ∧ e = e ∧ S = p a J := ⟨a, _, hf, rfl, h⟩
/-! ### A result of its own as one that is shared -/
def shSV : SV → SV
  | .one x => .one (.shd x)
  | .agg xs => .agg (xs.map .shd)
  | .tup ts => .tup (ts.map fun t => (t.1, t.2.map .shd))
  | .dead => .dead
theorem Ows.shds {w : World} {Z Z' : Nat → Prop} (hz : ∀ b, Z b → Z' b) : ∀ {xs : List Cell} {vs : List Value} {l : List Nat}, Ows w Z xs vs l → (∀ b, b ∈ l → Z' b) → Ows w Z' (xs.map .shd) vs []
  | _, _, _, .nil _, _ => .nil _
  | _, _, _, .cons h t, hl => .cons (.shd (h.sh hz fun b hb => hl b (List.mem_append_left _ hb))) (t.shds hz fun b hb => hl b (List.mem_append_right _ hb))
theorem owTup_sh {w : World} {Z Z' : Nat → Prop} (hz : ∀ b, Z b → Z' b) : ∀ {ts : List (Bool × List Cell)} {vs : List Value} {l : List Nat}, OwTup w Z ts vs l → (∀ b, b ∈ l → Z' b) → OwTup w Z' (ts.map fun t => (t.1, t.2.map .shd)) vs []
  | [], [], _, h, _ => rfl
  | [], _ :: _, _, h, _ => h.elim
  | (b, xs) :: ts, [], _, h, _ => by
    cases b <;> exact (show False from h).elim
  | (true, xs) :: ts, v :: vs, l, h, hl => by
    obtain ⟨us, l1, l2, e1, h1, h2, rfl⟩ := h
    exact ⟨us, [], [], e1, h1.shds hz fun b hb => hl b (List.mem_append_left _ hb), owTup_sh hz h2 fun b hb => hl b (List.mem_append_right _ hb), rfl⟩
  | (false, xs) :: ts, v :: vs, l, h, hl => by
    obtain ⟨x, l1, l2, rfl, h1, h2, rfl⟩ := h
    exact ⟨.shd x, [], [], rfl, .shd (h1.sh hz fun b hb => hl b (List.mem_append_left _ hb)), owTup_sh hz h2 fun b hb => hl b (List.mem_append_right _ hb), rfl⟩
theorem outs_nil {w w' : World} {Z Z' : Nat → Prop} : ∀ {as : List Arg} {vs : List Value} {lo : List Nat}, OutsRel w Z as vs [] lo → lo = [] ∧ OutsRel w' Z' as vs [] []
  | [], _, _, h => ⟨h.2, rfl, rfl⟩
  | a :: as, [], _, h => h.elim
  | a :: as, v :: vs, lo, h => by
    unfold OutsRel at h ⊢
    cases ha : a.m with
    | mu =>
      rw [ha] at h
      obtain ⟨o, os', l1, l2, e, -⟩ := h
      cases e
    | ro | sh | mv =>
      rw [ha] at h
      exact outs_nil h
theorem Ret.share {P : Program} {G : Nat → Option (List Value)} {f : FuncId} {as : List Arg} {v : SV} (h : Ret P G f as ⟨v, []⟩) : Ret P G f as ⟨shSV v, []⟩ := fun w Z vs l hG hZ ha hl hb => by
  refine (h w Z vs l hG hZ ha hl hb).mono fun u w' hr => ?_
  obtain ⟨Z', lr, lo, h1, h2, h3, h4, h5, -, h7⟩ := hr
  obtain ⟨e0, h6⟩ := outs_nil (w' := w') (Z' := fun b => Z' b ∨ b ∈ lr) (show OutsRel w' Z' as vs [] lo from h5)
  subst e0
  refine ⟨fun b => Z' b ∨ b ∈ lr, [], [], h1, fun b hb => .inl (h2 b hb), fun b hb => ?_, ?_, (show OutsRel w' (fun b => Z' b ∨ b ∈ lr) as vs [] [] from h6), List.nodup_nil, fun b hb => by cases hb⟩
  · rcases hb with hb | hb
    · exact h3 b hb
    · have := h7 b (List.mem_append_left _ hb)
      exact .inr this.2
  · cases v with
    | one x => exact .shd ((show Ow w' Z' x u lr from h4).sh (fun b hb => .inl hb) fun b hb => .inr hb)
    | agg xs =>
      obtain ⟨us, e, h⟩ := h4
      exact ⟨us, e, h.shds (fun b hb => .inl hb) fun b hb => .inr hb⟩
    | tup ts =>
      obtain ⟨us, e, h⟩ := h4
      exact ⟨us, e, owTup_sh (fun b hb => .inl hb) h fun b hb => .inr hb⟩
    | dead => exact rfl
end Go.Den

/- Steps whose side facts are found by themselves. -/
namespace Go.Den

theorem pickT {α : Type} {f : α → Cell} {xs : List α} {n : Int} {i : Nat} (hn : n = i)
    (hi : i < xs.length := by first | omega | (simp only [plain_i64, plain_ints, plain_nil, all_ints]; done) | (dsimp only; omega) | exact Nat.le_of_ble_eq_true rfl | rfl | (simp; done) | (simp only [htf] at *; first | omega | (simp; omega))) :
    pickN 1 ((xs.map f).drop (n.toNat * 1)) = some [f xs[i]] := pick_at hn hi
theorem andT {a b : Prop} (h : b)
    (ha : a := by first | omega | (simp only [plain_i64, plain_ints, plain_nil, all_ints]; done) | (dsimp only; omega) | exact Nat.le_of_ble_eq_true rfl | rfl | (simp; done) | (simp only [htf] at *; first | omega | (simp; omega))) : a ∧ b := ⟨ha, h⟩
theorem andK {a : Array Oper} {b : List (List Nat × List Nat)} {p : Prop} (h : p) (ha : indep a b = true := by kernel_rfl) : indep a b = true ∧ p := ⟨ha, h⟩
theorem andA {α : Type} {l : List α} {f : α → Bool} {p : Prop} (h : p) (ha : l.all f = true := by rfl) : l.all f = true ∧ p := ⟨ha, h⟩
end Go.Den
