import Derived.Calls
import Derived.Laws.Sem
import Derived.Laws.World
set_option autoImplicit false
set_option linter.unusedSimpArgs false
set_option linter.unusedVariables false
/- Values with ownership, and how they lie in memory. -/
namespace Go.Den

/-- A cell's content as a tree. `sl es sz n cs`: a slice of n elements of sz cells; `es`: in an owned tree its elements are shared. -/
inductive Cell where
  | c (v : Value)
  | sl (es : Bool) (sz n : Nat) (cs : List Cell)
  | ptr (cs : List Cell)
  | mp (es : Bool) (ks : List Value) (cs : List Cell)
  | fn (f : Fn) (caps : List Cell)
  | shd (x : Cell)
  | hole
  | hd (r i : Nat) (k : Option Nat)
  | ad (r i : Nat) (k : Option Nat) (j : Nat)
  deriving Inhabited

mutual
/-- The value reads as the tree; every block that it leads to is in Z. -/
inductive Sh (W : World) (Z : Nat → Prop) : Cell → Value → Prop
  | c (v : Value) : Sh W Z (.c v) v
  | hole (v : Value) : Sh W Z .hole v
  | shd {x : Cell} {v : Value} (h : Sh W Z x v) : Sh W Z (.shd x) v
  | sl {es : Bool} {sz n cap : Nat} {cs : List Cell} {a : Addr} {vs : List Value} (hlen : cs.length = n * sz) (hcap : n ≤ cap) (hc : Shs W Z cs vs)
      (hm : cs ≠ [] → Z a.block ∧ a.spot = none ∧ ∃ (cur : Array Value) (e : TypeId) (fr : Nat × Nat), W.heap[a.block]? = some (.cells cur e fr) ∧ a.off + n * sz ≤ cur.size ∧ vs = (cur.toList.drop a.off).take (n * sz)) :
      Sh W Z (.sl es sz n cs) (.slice (some a) n cap)
  | nil (es : Bool) (sz : Nat) : Sh W Z (.sl es sz 0 []) (.slice none 0 0)
  | ptr {cs : List Cell} {a : Addr} {cur : Array Value} {e : TypeId} {fr : Nat × Nat} {vs : List Value}
      (hz : Z a.block) (hs : a.spot = none) (hh : W.heap[a.block]? = some (.cells cur e fr))
      (hroom : a.off + cs.length ≤ cur.size) (hv : vs = (cur.toList.drop a.off).take cs.length) (hc : Shs W Z cs vs) :
      Sh W Z (.ptr cs) (.pointer (some a))
  | mp {f : Bool} {ks : List Value} {cs : List Cell} {b : Nat} {es : Array MapEntry} {clock : Nat}
      (hz : Z b) (hh : W.heap[b]? = some (.map es clock)) (hk : es.toList.map (·.key) = ks) (hc : Shs W Z cs (es.toList.map (·.val))) :
      Sh W Z (.mp f ks cs) (.map (some b))
  | fn {f : Fn} {caps : List Cell} {vs : List Value} (hc : Shs W Z caps vs) : Sh W Z (.fn f caps) (.func f #[] vs.toArray)
inductive Shs (W : World) (Z : Nat → Prop) : List Cell → List Value → Prop
  | nil : Shs W Z [] []
  | cons {x : Cell} {v : Value} {xs : List Cell} {vs : List Value} (h : Sh W Z x v) (t : Shs W Z xs vs) : Shs W Z (x :: xs) (v :: vs)
end

/-- Nothing is shared. -/
def noZ : Nat → Prop := fun _ => False

mutual
/-- The value reads as the tree; the blocks in the list are its own, each once; what is marked as shared lies in Z. -/
inductive Ow (W : World) : (Nat → Prop) → Cell → Value → List Nat → Prop
  | c (Z : Nat → Prop) (v : Value) : Ow W Z (.c v) v []
  | hole (Z : Nat → Prop) (v : Value) : Ow W Z .hole v []
  | shd {Z : Nat → Prop} {x : Cell} {v : Value} (h : Sh W Z x v) : Ow W Z (.shd x) v []
  | sl {Z : Nat → Prop} {sz n cap b : Nat} {cs : List Cell} {cur : Array Value} {e : TypeId} {vs : List Value} {l : List Nat}
      (hh : W.heap[b]? = some (.cells cur e (0, 0))) (hlen : cs.length = n * sz) (hroom : cur.size = cap * sz) (hcap : n ≤ cap)
      (hmax : cap ≤ 9223372036854775807) (hv : vs = cur.toList.take (n * sz)) (hc : Ows W noZ cs vs l) :
      Ow W Z (.sl false sz n cs) (.slice (some ⟨b, 0, none⟩) n cap) (b :: l)
  | sls {Z : Nat → Prop} {sz n cap b : Nat} {cs : List Cell} {cur : Array Value} {e : TypeId} {vs : List Value}
      (hh : W.heap[b]? = some (.cells cur e (0, 0))) (hlen : cs.length = n * sz) (hroom : cur.size = cap * sz) (hcap : n ≤ cap)
      (hmax : cap ≤ 9223372036854775807) (hv : vs = cur.toList.take (n * sz)) (hc : Shs W Z cs vs) :
      Ow W Z (.sl true sz n cs) (.slice (some ⟨b, 0, none⟩) n cap) [b]
  | nil (Z : Nat → Prop) (es : Bool) (sz : Nat) : Ow W Z (.sl es sz 0 []) (.slice none 0 0) []
  | ptr {Z : Nat → Prop} {b : Nat} {cs : List Cell} {cur : Array Value} {e : TypeId} {l : List Nat}
      (hh : W.heap[b]? = some (.cells cur e (0, 0))) (hc : Ows W Z cs cur.toList l) :
      Ow W Z (.ptr cs) (.pointer (some ⟨b, 0, none⟩)) (b :: l)
  | mp {Z : Nat → Prop} {ks : List Value} {cs : List Cell} {b : Nat} {es : Array MapEntry} {clock : Nat} {l : List Nat}
      (hh : W.heap[b]? = some (.map es clock)) (hk : es.toList.map (·.key) = ks) (hc : Ows W noZ cs (es.toList.map (·.val)) l) :
      Ow W Z (.mp false ks cs) (.map (some b)) (b :: l)
  | mps {Z : Nat → Prop} {ks : List Value} {cs : List Cell} {b : Nat} {es : Array MapEntry} {clock : Nat}
      (hh : W.heap[b]? = some (.map es clock)) (hk : es.toList.map (·.key) = ks) (hc : Shs W Z cs (es.toList.map (·.val))) :
      Ow W Z (.mp true ks cs) (.map (some b)) [b]
  | fn {Z : Nat → Prop} {f : Fn} {caps : List Cell} {vs : List Value} {l : List Nat} (hc : Ows W Z caps vs l) : Ow W Z (.fn f caps) (.func f #[] vs.toArray) l
inductive Ows (W : World) : (Nat → Prop) → List Cell → List Value → List Nat → Prop
  | nil (Z : Nat → Prop) : Ows W Z [] [] []
  | cons {Z : Nat → Prop} {x : Cell} {v : Value} {xs : List Cell} {vs : List Value} {l m : List Nat} (h : Ow W Z x v l) (t : Ows W Z xs vs m) : Ows W Z (x :: xs) (v :: vs) (l ++ m)
end

/-! ### Framing -/
mutual
theorem Sh.frame {W W' : World} {Z Z' : Nat → Prop} (hz : ∀ b, Z b → Z' b) (hw : ∀ b, Z b → W'.heap[b]? = W.heap[b]?) :
    ∀ {x : Cell} {v : Value}, Sh W Z x v → Sh W' Z' x v
  | _, _, .c v => .c v
  | _, _, .hole v => .hole v
  | _, _, .shd h => .shd (Sh.frame hz hw h)
  | _, _, .nil es sz => .nil es sz
  | _, _, .sl h1 h2 h3 h4 => .sl h1 h2 (Shs.frame hz hw h3) fun hne => have ⟨a, b, c, d, e, f, g, i⟩ := h4 hne; ⟨hz _ a, b, c, d, e, (hw _ a).trans f, g, i⟩
  | _, _, .ptr h1 h2 h3 h4 h5 h6 => .ptr (hz _ h1) h2 ((hw _ h1).trans h3) h4 h5 (Shs.frame hz hw h6)
  | _, _, .mp h1 h2 h3 h4 => .mp (hz _ h1) ((hw _ h1).trans h2) h3 (Shs.frame hz hw h4)
  | _, _, .fn h => .fn (Shs.frame hz hw h)
theorem Shs.frame {W W' : World} {Z Z' : Nat → Prop} (hz : ∀ b, Z b → Z' b) (hw : ∀ b, Z b → W'.heap[b]? = W.heap[b]?) :
    ∀ {xs : List Cell} {vs : List Value}, Shs W Z xs vs → Shs W' Z' xs vs
  | _, _, .nil => .nil
  | _, _, .cons h t => .cons (Sh.frame hz hw h) (Shs.frame hz hw t)
end
mutual
theorem Ow.frame {W W' : World} : ∀ {Z Z' : Nat → Prop} {x : Cell} {v : Value} {l : List Nat}, (∀ b, Z b → Z' b) → (∀ b, Z b → W'.heap[b]? = W.heap[b]?) →
    Ow W Z x v l → (∀ b, b ∈ l → W'.heap[b]? = W.heap[b]?) → Ow W' Z' x v l
  | _, _, _, _, _, _, _, .c _ v, _ => .c _ v
  | _, _, _, _, _, _, _, .hole _ v, _ => .hole _ v
  | _, _, _, _, _, hz, hw, .shd h, _ => .shd (h.frame hz hw)
  | _, _, _, _, _, _, _, .sl h1 h2 h3 h4 h5 h6 h7, hl => .sl ((hl _ (by simp)).trans h1) h2 h3 h4 h5 h6 (Ows.frame (fun _ h => h) (fun _ h => h.elim) h7 fun b hb => hl b (by simp [hb]))
  | _, _, _, _, _, hz, hw, .sls h1 h2 h3 h4 h5 h6 h7, hl => .sls ((hl _ (by simp)).trans h1) h2 h3 h4 h5 h6 (h7.frame hz hw)
  | _, _, _, _, _, _, _, .nil _ es sz, _ => .nil _ es sz
  | _, _, _, _, _, hz, hw, .ptr h1 h2, hl => .ptr ((hl _ (by simp)).trans h1) (Ows.frame hz hw h2 fun b hb => hl b (by simp [hb]))
  | _, _, _, _, _, _, _, .mp h1 h2 h3, hl => .mp ((hl _ (by simp)).trans h1) h2 (Ows.frame (fun _ h => h) (fun _ h => h.elim) h3 fun b hb => hl b (by simp [hb]))
  | _, _, _, _, _, hz, hw, .mps h1 h2 h3, hl => .mps ((hl _ (by simp)).trans h1) h2 (h3.frame hz hw)
  | _, _, _, _, _, hz, hw, .fn h, hl => .fn (Ows.frame hz hw h hl)
theorem Ows.frame {W W' : World} : ∀ {Z Z' : Nat → Prop} {xs : List Cell} {vs : List Value} {l : List Nat}, (∀ b, Z b → Z' b) → (∀ b, Z b → W'.heap[b]? = W.heap[b]?) →
    Ows W Z xs vs l → (∀ b, b ∈ l → W'.heap[b]? = W.heap[b]?) → Ows W' Z' xs vs l
  | _, _, _, _, _, _, _, .nil _, _ => .nil _
  | _, _, _, _, _, hz, hw, .cons h t, hl => .cons (Ow.frame hz hw h fun b hb => hl b (by simp [hb])) (Ows.frame hz hw t fun b hb => hl b (by simp [hb]))
end

/-! ### Lists of cells -/
theorem Shs.length {W : World} {Z : Nat → Prop} : ∀ {xs : List Cell} {vs : List Value}, Shs W Z xs vs → xs.length = vs.length
  | _, _, .nil => rfl
  | _, _, .cons _ t => by simp [t.length]
theorem Ows.length {W : World} : ∀ {Z : Nat → Prop} {xs : List Cell} {vs : List Value} {l : List Nat}, Ows W Z xs vs l → xs.length = vs.length
  | _, _, _, _, .nil _ => rfl
  | _, _, _, _, .cons _ t => by simp [t.length]
theorem Shs.append {W : World} {Z : Nat → Prop} : ∀ {xs ys : List Cell} {vs us : List Value}, Shs W Z xs vs → Shs W Z ys us → Shs W Z (xs ++ ys) (vs ++ us)
  | _, _, _, _, .nil, h => h
  | _, _, _, _, .cons h t, h' => .cons h (t.append h')
theorem Ows.append {W : World} : ∀ {Z : Nat → Prop} {xs ys : List Cell} {vs us : List Value} {l m : List Nat}, Ows W Z xs vs l → Ows W Z ys us m → Ows W Z (xs ++ ys) (vs ++ us) (l ++ m)
  | _, _, _, _, _, _, _, .nil _, h => h
  | _, _, _, _, _, _, _, .cons h t, h' => by rw [List.append_assoc]; exact .cons h (t.append h')
theorem Shs.take {W : World} {Z : Nat → Prop} : ∀ {xs : List Cell} {vs : List Value}, Shs W Z xs vs → ∀ n, Shs W Z (xs.take n) (vs.take n)
  | _, _, .nil, n => by simp; exact .nil
  | _, _, .cons _ _, 0 => .nil
  | _, _, .cons h t, n + 1 => .cons h (t.take n)
theorem Shs.drop {W : World} {Z : Nat → Prop} : ∀ {xs : List Cell} {vs : List Value}, Shs W Z xs vs → ∀ n, Shs W Z (xs.drop n) (vs.drop n)
  | _, _, .nil, n => by simp; exact .nil
  | _, _, .cons h t, 0 => .cons h t
  | _, _, .cons _ t, n + 1 => t.drop n
theorem Shs.get {W : World} {Z : Nat → Prop} : ∀ {xs : List Cell} {vs : List Value}, Shs W Z xs vs → ∀ {i : Nat} {x : Cell}, xs[i]? = some x → ∃ v, vs[i]? = some v ∧ Sh W Z x v
  | _, _, .nil, i, x, h => by simp at h
  | _, _, .cons (v := v) h t, 0, x, hx => by simp at hx; subst hx; exact ⟨v, rfl, h⟩
  | _, _, .cons h t, i + 1, x, hx => by simpa using t.get (by simpa using hx)

/-- One cell of a list is looked at; it may be exchanged. -/
theorem Ows.split {W : World} : ∀ {Z : Nat → Prop} {xs : List Cell} {vs : List Value} {l : List Nat}, Ows W Z xs vs l → ∀ {i : Nat} {x : Cell}, xs[i]? = some x →
    ∃ v l1 lx l2, vs[i]? = some v ∧ l = l1 ++ lx ++ l2 ∧ Ow W Z x v lx ∧
      ∀ (W' : World) (Z' : Nat → Prop), (∀ b, Z b → Z' b) → (∀ b, Z b → W'.heap[b]? = W.heap[b]?) → (∀ b, b ∈ l1 ++ l2 → W'.heap[b]? = W.heap[b]?) →
        ∀ (y : Cell) (u : Value) (ly : List Nat), Ow W' Z' y u ly → Ows W' Z' (xs.set i y) (vs.set i u) (l1 ++ ly ++ l2)
  | _, _, _, _, .nil _, i, x, h => by simp at h
  | _, _, _, _, .cons (v := v) (l := l) (m := m) h t, 0, x, hx => by
    simp at hx; subst hx
    refine ⟨v, [], l, m, rfl, by simp, h, fun W' Z' hz hw hl y u ly hy => ?_⟩
    simpa using Ows.cons hy (t.frame hz hw fun b hb => hl b (by simp [hb]))
  | _, _, _, _, .cons (l := l) h t, i + 1, x, hx => by
    obtain ⟨v, l1, lx, l2, e1, e2, hx', hset⟩ := t.split (i := i) (by simpa using hx)
    refine ⟨v, l ++ l1, lx, l2, by simpa using e1, by simp [e2, List.append_assoc], hx', fun W' Z' hz hw hl y u ly hy => ?_⟩
    have := Ows.cons (h.frame hz hw fun b hb => hl b (by simp [hb])) (hset W' Z' hz hw (fun b hb => hl b (by simp at hb ⊢; rcases hb with hb | hb <;> simp [hb])) y u ly hy)
    simpa [List.append_assoc] using this
end Go.Den

/- The machine on trees: what each operation does to slots and to the trees that the slots name. -/
namespace Go.Den

/-- A slot: nothing known, one cell, a struct's or an array's cells, a call's several results (for each: is it an aggregate, its cells). -/
inductive SV where
  | dead
  | one (x : Cell)
  | agg (xs : List Cell)
  | tup (vs : List (Bool × List Cell))
  deriving Inhabited

/-- Slot i, and the trees that live under its name: (i, 0), (i, 1), .. -/
structure Ent where
  s : SV
  r : List Cell
instance : Inhabited Ent := ⟨⟨.dead, []⟩⟩

/-- How an argument is handed over: read alone, shared from now on, changed and given back, given away. -/
inductive PM where
  | ro | sh | mu | mv
  deriving DecidableEq

structure Arg where
  m : PM
  v : SV

structure Res where
  v : SV
  outs : List SV

structure Ty where
  desc : TypeDesc
  size : Nat
  bytes : Nat
  zero : Value

inductive AM (α : Type) where
  | ret (a : α)
  | fail
  | get (i : Nat) (k : Ent → AM α)
  | put (i : Nat) (e : Ent) (k : AM α)
  | getS (i : Nat) (k : SV → AM α)
  | putR (i : Nat) (rs : List Cell) (k : AM α)
  | test (p : Prop) (k : AM α)
  | ite (b : Bool) (x y : AM α)
  | pick (o : Option Cell) (k : Cell → AM α)
  | picks (o : List Cell) (n : Nat) (k : List Cell → AM α)
  | str (cs : List Cell) (k : ByteArray → AM α)
  | opt (o : Option Cell) (k : Cell → AM α) (n : AM α)
  | call (f : FuncId) (args : List Arg) (k : Res → AM α)
  | all (p : Ent → Bool) (k : AM α)

/-! ### Trees -/
/-- The tree at a place: a named tree, or one of its elements. -/
def getC (cs : List Cell) (i : Nat) : Option Nat → Option Cell
  | none => cs[i]?
  | some k => match cs[i]? with
    | some (.sl false _ _ ds) => ds[k]?
    | _ => none
def setC (cs : List Cell) (i : Nat) (y : Cell) : Option Nat → List Cell
  | none => cs.set i y
  | some k => match cs[i]? with
    | some (.sl false sz n ds) => cs.set i (.sl false sz n (ds.set k y))
    | _ => cs
mutual
/-- An owned tree as one that is read alone. -/
def ro : Cell → Cell
  | .shd x => x
  | .sl _ sz n cs => .sl false sz n cs
  | .mp _ ks cs => .mp false ks cs
  | .ptr cs => .ptr (roL cs)
  | .fn f caps => .fn f (roL caps)
  | x => x
def roL : List Cell → List Cell
  | [] => []
  | x :: xs => ro x :: roL xs
end
mutual
/-- Is a part marked as shared? -/
def hasShd : Cell → Bool
  | .shd _ => true
  | .sl es _ _ _ => es
  | .mp es _ _ => es
  | .ptr cs => hasShdL cs
  | .fn _ caps => hasShdL caps
  | _ => false
def hasShdL : List Cell → Bool
  | [] => false
  | x :: xs => hasShd x || hasShdL xs
end
/-- A plain value of one cell. -/
def isC : Cell → Bool
  | .c v => v.oneCell'
  | _ => false
def Plain (cs : List Cell) : Prop := ∀ x ∈ cs, isC x = true
/-- A tree's value is one cell. -/
def okC : Cell → Bool
  | .c v => v.oneCell'
  | .shd x => okC x
  | .hole | .hd .. | .ad .. => false
  | _ => true
/-- Cells from j on are replaced. -/
def splice (ds : List Cell) (j : Nat) (ys : List Cell) : List Cell := ds.take j ++ ys ++ ds.drop (j + ys.length)
def svOf : Value → SV
  | .agg cs => .agg (cs.toList.map .c)
  | .tuple vs => .tup (vs.toList.map fun v => match v with | .agg cs => (true, cs.toList.map .c) | v => (false, [.c v]))
  | v => .one (.c v)
def svCells : SV → List Cell
  | .one x => [x]
  | .agg xs => xs
  | _ => []
def svOk : SV → Bool
  | .one _ | .agg _ => true
  | _ => false
def svLike (v : SV) (xs : List Cell) : SV := match v, xs with
  | .one _, [x] => .one x
  | .agg _, xs => .agg xs
  | _, _ => .dead
/-- An aggregate or one cell. -/
def svMk (isAgg : Bool) (xs : List Cell) : SV := match isAgg, xs with
  | true, xs => .agg xs
  | false, [x] => .one x
  | false, _ => .dead

/-! ### Names for the parts of a tree of one's own, and back -/
mutual
def openC (r n : Nat) : Cell → Cell × List Cell
  | .c v => (.c v, [])
  | .shd x => (x, [])
  | .sl es sz m cs => (.hd r n none, [.sl es sz m cs])
  | .mp es ks cs => (.hd r n none, [.mp es ks cs])
  | .ptr cs => (.hd r n none, .ptr (openL r (n + 1) cs).1 :: (openL r (n + 1) cs).2)
  | .fn f caps => (.fn f (openL r n caps).1, (openL r n caps).2)
  | _ => (.hole, [])
def openL (r n : Nat) : List Cell → List Cell × List Cell
  | [] => ([], [])
  | x :: xs => ((openC r n x).1 :: (openL r (n + (openC r n x).2.length) xs).1, (openC r n x).2 ++ (openL r (n + (openC r n x).2.length) xs).2)
end
def openT (r n : Nat) : List (Bool × List Cell) → List (Bool × List Cell) × List Cell
  | [] => ([], [])
  | (b, xs) :: vs => ((b, (openL r n xs).1) :: (openT r (n + (openL r n xs).2.length) vs).1, (openL r n xs).2 ++ (openT r (n + (openL r n xs).2.length) vs).2)
def openSV (r n : Nat) : SV → SV × List Cell
  | .dead => (.dead, [])
  | .one x => (.one (openC r n x).1, (openC r n x).2)
  | .agg xs => (.agg (openL r n xs).1, (openL r n xs).2)
  | .tup vs => (.tup (openT r n vs).1, (openT r n vs).2)

/-! ### Pieces of operations -/
variable {α : Type}
/-- What may be named inside a slice: its elements' headers. -/
def okAt : Option Nat → Cell → Bool
  | none, _ => true
  | some _, .sl .. => true
  | some _, .mp .. => true
  | some _, _ => false
/-- A choice that may wait for an index (the path inside a slice). -/
def pickK (k : Option Nat) (o : Option Cell) (f : Cell → AM α) : AM α := match k with
  | none => .pick o f
  | some _ => .opt o f .fail
/-- The tree at a place. -/
def atP (r i : Nat) (k : Option Nat) (K : List Cell → Cell → AM α) : AM α :=
  .get r fun e => pickK k (getC e.r i k) fun x => if okAt k x then K e.r x else .fail
/-- The tree at a place is replaced; what the slot holds stays. -/
def setP (r i : Nat) (y : Cell) (k : Option Nat) (K : AM α) : AM α :=
  .get r fun e => .putR r (setC e.r i y k) K

mutual
/-- What is read through a slot's cell (n: how deep names may lead). -/
def rdC : Nat → Cell → (Cell → AM α) → AM α
  | 0, _, _ => .fail
  | n + 1, x, K => match x with
    | .hd r i k => atP r i k fun _ y => match y with
      | .sl .. | .mp .. => K (ro y)
      | .shd z => K z
      | .ptr ys => rdL n ys fun zs => K (.ptr zs)
      | _ => .fail
    | .ad r i k j => atP r i k fun _ y => match y with
      | .ptr ys => if j ≤ ys.length then rdL n (ys.drop j) fun zs => K (.ptr zs) else .fail
      | _ => .fail
    | .fn f caps => rdL n caps fun zs => K (.fn f zs)
    | .hole => .fail
    | .shd _ => .fail
    | x => K x
def rdL : Nat → List Cell → (List Cell → AM α) → AM α
  | 0, _, _ => .fail
  | _ + 1, [], K => K []
  | n + 1, x :: xs, K => rdC n x fun y => rdL n xs fun ys => K (y :: ys)
end
mutual
/-- What a slot's cell names is moved into a tree of its own. -/
def pkC : Nat → Cell → (Cell → AM α) → AM α
  | 0, _, _ => .fail
  | n + 1, x, K => match x with
    | .c v => K (.c v)
    | .hd r i k => atP r i k fun _ y => match y with
      | .sl .. | .mp .. => setP r i .hole k (K y)
      | .shd z => K (.shd z)
      | .ptr ys => setP r i .hole k (pkL n ys fun zs => K (.ptr zs))
      | _ => .fail
    | .fn f caps => pkL n caps fun zs => K (.fn f zs)
    | .hole => K .hole
    | .ad .. => .fail
    | .shd _ => .fail
    | x => K (.shd x)
def pkL : Nat → List Cell → (List Cell → AM α) → AM α
  | 0, _, _ => .fail
  | _ + 1, [], K => K []
  | n + 1, x :: xs, K => pkC n x fun y => pkL n xs fun ys => K (y :: ys)
end
mutual
/-- No name for an element of a tree in q. -/
def noN (q : Nat → Nat → Bool) : Cell → Bool
  | .hd r i k => k.isNone || !q r i
  | .ad r i k _ => k.isNone || !q r i
  | .ptr cs => noNL q cs
  | .fn _ caps => noNL q caps
  | _ => true
def noNL (q : Nat → Nat → Bool) : List Cell → Bool
  | [] => true
  | x :: xs => noN q x && noNL q xs
end
def noSV (q : Nat → Nat → Bool) : SV → Bool
  | .one x => noN q x
  | .agg xs => noNL q xs
  | .tup vs => vs.all fun v => noNL q v.2
  | .dead => true
def noB (q : Nat → Nat → Bool) : Cell → Bool
  | .ptr ys => noNL q ys
  | _ => true
def noE (q : Nat → Nat → Bool) (e : Ent) : Bool := noSV q e.s && e.r.all (noB q)
def isAt (r i : Nat) : Nat → Nat → Bool := fun r' i' => r' == r && i' == i
/-- What was lent comes back. -/
def bkC (x y : Cell) (K : AM α) : AM α := match x with
  | .hd r i none => (match y with
    | .shd _ => K
    | .ptr ys => .get r fun e => .putR r (e.r.set i (.ptr (openL r e.r.length ys).1) ++ (openL r e.r.length ys).2) K
    | y => .all (noE (isAt r i)) (.get r fun e => .putR r (e.r.set i y) K))
  | .hd r i (some k) => (match y with
    | .shd _ => .fail
    | .ptr _ => .fail
    | y => if hasShd y then .fail else .get r fun e => pickK (some k) (getC e.r i (some k)) fun z => match z with
      | .hole => setP r i y (some k) K
      | _ => .fail)
  | .c _ | .sl .. | .mp .. | .ptr _ => K
  | _ => .fail
def bkL : List Cell → List Cell → AM α → AM α
  | x :: xs, y :: ys, K => (match x, y with
    | .fn _ caps, .fn _ zs => go caps zs (bkL xs ys K)
    | x, y => bkC x y (bkL xs ys K))
  | [], [], K => K
  | _, _, _ => .fail
where go : List Cell → List Cell → AM α → AM α
    | x :: xs, y :: ys, K => bkC x y (go xs ys K)
    | [], [], K => K
    | _, _, _ => .fail

/-- Named trees are shared from now on. -/
def frzL : List Cell → AM α → AM α
  | [], K => K
  | x :: xs, K => (match x with
    | .hd r i k => (match k with
      | none => atP r i none fun _ y => match y with
        | .sl _ sz n cs => setP r i (.shd (.sl false sz n cs)) none (frzL xs K)
        | .mp _ ks cs => setP r i (.shd (.mp false ks cs)) none (frzL xs K)
        | .shd _ => frzL xs K
        | _ => .fail
      | some _ => .fail)
    | .c _ | .sl .. | .mp .. | .ptr _ => frzL xs K
    | .fn _ [] => frzL xs K
    | _ => .fail)

/-- May the cells be written to memory? -/
def wrC : Cell → Bool
  | .c v => v.oneCell'
  | .hole | .shd _ => false
  | .hd _ _ (some _) | .ad _ _ (some _) _ => false
  | _ => true

def setD (d : Option Tmp) (v : SV) : AM Unit := match d with
  | some d => .get d fun e => .put d ⟨v, e.r⟩ (.ret ())
  | none => .ret ()
/-- A result that brings trees of its own: the name must be free. -/
def setR (d : Option Tmp) (v : SV) : AM Unit := match d with
  | some d => .get d fun e => match e.r with
    | [] => .put d ⟨(openSV d 0 v).1, (openSV d 0 v).2⟩ (.ret ())
    | _ => .fail
  | none => .ret ()
/-- The same, the slot's cells and the trees given apart. -/
def setN (d : Option Tmp) (v : SV) (rs : List Cell) : AM Unit := match d with
  | some d => .get d fun e => match e.r with
    | [] => .put d ⟨v, rs⟩ (.ret ())
    | _ => .fail
  | none => .ret ()

section
variable (n : Nat) (G : Nat → Option (List Value))

def opd (x : Operand) (K : SV → AM α) : AM α := match x with
  | .tmp t => if t < n then .getS t K else .fail
  | .const v => K (svOf v)
  | .func f => K (.one (.fn (.func f) []))
  | .global g => match G g with
    | some vs => K (.one (.ptr (vs.map .c)))
    | none => .fail
def opC (x : Operand) (K : Cell → AM α) : AM α := opd n G x fun
  | .one c => K c
  | _ => .fail
def opV (x : Operand) (K : Value → AM α) : AM α := opC n G x fun
  | .c v => K v
  | _ => .fail
def opI (x : Operand) (K : IntKind → Int → AM α) : AM α := opV n G x fun
  | .int kd n => K kd n
  | _ => .fail
def opB (x : Operand) (K : Bool → AM α) : AM α := opV n G x fun
  | .bool b => K b
  | _ => .fail
end

def binI (op : BinOp) (k : IntKind) (a b : Int) (K : Value → AM α) : AM α := match op with
  | .add => K (.int k (k.wrap (a + b)))
  | .sub => K (.int k (k.wrap (a - b)))
  | .mul => K (.int k (k.wrap (a * b)))
  | .quo => .test (b ≠ 0) (K (.int k (k.wrap (a.tdiv b))))
  | .rem => .test (b ≠ 0) (K (.int k (a.tmod b)))
  | .and => K (.int k (k.wrap (BitVec.ofInt k.bits a &&& BitVec.ofInt k.bits b).toNat))
  | .or => K (.int k (k.wrap (BitVec.ofInt k.bits a ||| BitVec.ofInt k.bits b).toNat))
  | .xor => K (.int k (k.wrap (BitVec.ofInt k.bits a ^^^ BitVec.ofInt k.bits b).toNat))
  | .andNot => K (.int k (k.wrap (BitVec.ofInt k.bits a &&& ~~~ BitVec.ofInt k.bits b).toNat))
  | .eql => K (.bool (a == b))
  | .neq => K (.bool (a != b))
  | .lss => K (.bool (a < b))
  | .leq => K (.bool (a ≤ b))
  | .gtr => K (.bool (a > b))
  | .geq => K (.bool (a ≥ b))
  | _ => .fail
def binS (op : BinOp) (a b : ByteArray) (K : Value → AM α) : AM α := match op with
  | .add => .test (a.size + b.size ≤ 9223372036854775807) (K (.string (a ++ b)))
  | .eql => K (.bool (a.data.toList == b.data.toList))
  | .neq => K (.bool !(a.data.toList == b.data.toList))
  | _ => .fail
def binV (op : BinOp) (d : Option TypeDesc) (x y : Value) (K : Value → AM α) : AM α := match x, y with
  | .int k a, .int k' b => match op with
    | .shl => .test (0 ≤ b) (K (.int k (k.wrap (a * 2 ^ (min b.toNat k.bits)))))
    | .shr => .test (0 ≤ b) (K (.int k (a.fdiv (2 ^ (min b.toNat k.bits)))))
    | op => if k = k' then binI op k a b K else .fail
  | .string a, .string b => binS op a b K
  | .bool a, .bool b => match d with
    | some .bool => (match op with
      | .eql => K (.bool (a == b))
      | .neq => K (.bool !(a == b))
      | _ => .fail)
    | _ => .fail
  | _, _ => .fail
def unV (op : UnOp) (x : Value) (K : Value → AM α) : AM α := match op, x with
  | .neg, .int k n => K (.int k (k.wrap (0 - n)))
  | .xor, .int k n => K (.int k (k.wrap (BitVec.ofInt k.bits (if k.signed then -1 else k.max) ^^^ BitVec.ofInt k.bits n).toNat))
  | .not, .bool b => K (.bool !b)
  | _, _ => .fail
def convV (by_ : Bool) (dst : TypeDesc) (x : Cell) (K : Cell → AM α) : AM α := match dst, x with
  | .int k, .c (.int _ n) => K (.c (.int k (k.wrap n)))
  | .string, .c (.int _ n) => K (.c (.string (Utf8.encode n)))
  | .string, .c (.string s) => K (.c (.string s))
  | .string, .sl _ sz _ cs => if by_ && sz == 1 then .str cs fun s => K (.c (.string s)) else .fail
  | _, _ => .fail

/-- The kinds of values that hold no memory. -/
def flat : TypeDesc → Bool
  | .bool | .int _ | .string => true
  | _ => false
def isAggD : TypeDesc → Bool
  | .struct _ | .array .. => true
  | _ => false
def zeros (ty : Ty) (n : Nat) : List Cell := match ty.zero.cells.toList with
  | [z] => List.replicate n (.c z)
  | zs => (List.replicate n (zs.map Cell.c)).flatten

/-- Cells that are read out of a slice of one's own: values as they are, names of what is one's own. -/
def viewC (r i j : Nat) : Cell → Cell
  | .c v => .c v
  | .sl .. | .mp .. => .hd r i (some j)
  | _ => .hole
def viewL (r i : Nat) : Nat → List Cell → List Cell
  | _, [] => []
  | j, x :: xs => viewC r i j x :: viewL r i (j + 1) xs
def stripC : Cell → Option Cell
  | .c v => some (.c v)
  | .shd x => some x
  | _ => none

def loadAM (ty : Ty) (a : Cell) (K : SV → AM α) : AM α := match a with
  | .ptr cs => .picks cs ty.size fun ys => K (svMk (isAggD ty.desc) ys)
  | .ad r i k j => atP r i k fun _ y => match y with
    | .sl false _ _ ds => match k with
      | none => .picks (ds.drop j) ty.size fun ys => K (svMk (isAggD ty.desc) (viewL r i j ys))
      | some _ => .picks (ds.drop j) ty.size fun ys => .test (Plain ys) (K (svMk (isAggD ty.desc) ys))
    | .ptr ds | .sl true _ _ ds | .shd (.sl _ _ _ ds) | .shd (.ptr ds) => .picks (ds.drop j) ty.size fun ys => K (svMk (isAggD ty.desc) ys)
    | _ => .fail
  | .hd r i none => atP r i none fun _ y => match y with
    | .ptr ds | .shd (.ptr ds) => .picks ds ty.size fun ys => K (svMk (isAggD ty.desc) ys)
    | _ => .fail
  | _ => .fail
/-- A name. -/
def isNm : Cell → Bool
  | .hd .. => true
  | _ => false
def storeAM (ty : Ty) (a : Cell) (v : SV) (K : AM α) : AM α :=
  if (svCells v).length ≠ ty.size || !(svOk v && (svCells v).all wrC) then .fail else match a with
  | .ad r i k j => atP r i k fun _ y => match y with
    | .sl es sz n ds => (match es with
      | false => if (svCells v).any isNm then (match k with
        | none => .test (j + ty.size ≤ ds.length) (pkL 12 (svCells v) fun ys => if hasShdL ys then .fail else .all (noE (isAt r i)) (atP r i none fun _ y => match y with
          | .sl false sz n ds => .test (j + ty.size ≤ ds.length) (setP r i (.sl false sz n (splice ds j ys)) none K)
          | _ => .fail))
        | some _ => .fail) else .test (j + ty.size ≤ ds.length ∧ Plain (svCells v)) (setP r i (.sl false sz n (splice ds j (svCells v))) k K)
      | true => match k with
        | none => .test (j + ty.size ≤ ds.length) (frzL (svCells v) (rdL 12 (svCells v) fun ys => atP r i none fun _ y => match y with
          | .sl true sz n ds => .test (j + ty.size ≤ ds.length) (setP r i (.sl true sz n (splice ds j ys)) none K)
          | _ => .fail))
        | some _ => .fail)
    | .ptr ds => (match k with
      | none => .test (j + ty.size ≤ ds.length) (setP r i (.ptr (splice ds j (svCells v))) none K)
      | some _ => .fail)
    | _ => .fail
  | .hd r i k => (match k with
    | none => atP r i none fun _ y => match y with
      | .ptr ds => .test (ty.size ≤ ds.length) (setP r i (.ptr (splice ds 0 (svCells v))) none K)
      | _ => .fail
    | some _ => .fail)
  | _ => .fail
def fieldAddrAM (off : Nat) (a : Cell) (K : Cell → AM α) : AM α := match a with
  | .ptr cs => .test (off ≤ cs.length) (K (.ptr (cs.drop off)))
  | .ad r i none j => K (.ad r i none (j + off))
  | .hd r i none => atP r i none fun _ y => match y with
    | .ptr _ | .shd (.ptr _) => K (.ad r i none off)
    | _ => .fail
  | _ => .fail
def indexAddrAM (size : Nat) (x : Cell) (n : Int) (K : Cell → AM α) : AM α := match x with
  | .sl _ sz m cs => .test (0 ≤ n ∧ n < m) (if sz = size then K (.ptr (cs.drop (n.toNat * size))) else .fail)
  | .hd r i k => atP r i k fun _ y => match y with
    | .sl _ sz m _ | .shd (.sl _ sz m _) => .test (0 ≤ n ∧ n < m) (if sz = size then K (.ad r i k (n.toNat * size)) else .fail)
    | _ => .fail
  | _ => .fail
def lenAM (d : TypeDesc) (x : Cell) (K : Int → AM α) : AM α := match d, x with
  | .slice _, .c (.slice none n _) => K n
  | .map .., .c (.map none) => K 0
  | .string, .c (.string s) => K s.size
  | .slice _, .sl _ _ n _ => K n
  | .map .., .mp _ ks _ => K ks.length
  | .slice _, .hd r i k => atP r i k fun _ y => match y with
    | .sl _ _ n _ | .shd (.sl _ _ n _) => K n
    | _ => .fail
  | .map .., .hd r i none => atP r i none fun _ y => match y with
    | .mp _ ks _ | .shd (.mp _ ks _) => K ks.length
    | _ => .fail
  | _, _ => .fail
end Go.Den

/- Each operation of the machine on trees; code; what a call gives back. -/
namespace Go.Den

/-- What is told of the program: its types, the variables that are laid, how arguments are handed over, which slices hold shared elements; what is live at loops' heads, and which of it reads as empty slices where it is nil. -/
structure Env where
  n : Nat
  T : TypeId → Option Ty
  G : Nat → Option (List Value)
  sig : FuncId → List PM
  force : List Nat
  live : Nat → List (Nat × Nat)
  nils : Nat → List (Nat × Nat)

def keyEq : Value → Value → Bool
  | .int k a, .int k' b => k == k' && a == b
  | .bool a, .bool b => a == b
  | .string a, .string b => a.data.toList == b.data.toList
  | .agg xs, .agg ys => go xs.toList ys.toList
  | _, _ => false
where go : List Value → List Value → Bool
    | [], [] => true
    | .int k a :: xs, .int k' b :: ys => k == k' && a == b && go xs ys
    | _, _ => false
def findK (k : Value) : List Value → Option Nat
  | [] => none
  | x :: xs => if keyEq k x then some 0 else (findK k xs).map (· + 1)
def getM (k : Value) (ks : List Value) (cs : List Cell) : Option Cell := (findK k ks).bind (cs[·]?)
def putK (k : Value) (ks : List Value) : List Value := match findK k ks with
  | some _ => ks
  | none => ks ++ [k]
def putM (k : Value) (ks : List Value) (c : Cell) (cs : List Cell) : List Cell := match findK k ks with
  | some i => cs.set i c
  | none => cs ++ [c]
/-- A key of the type. -/
def keyOk (T : TypeId → Option Ty) (kt : TypeId) (v : Value) : Bool := match T kt with
  | some ⟨.int k, _, _, _⟩ => (match v with
    | .int k' _ => decide (k = k')
    | _ => false)
  | some ⟨.string, _, _, _⟩ => (match v with
    | .string _ => true
    | _ => false)
  | some ⟨.array n e, _, _, _⟩ => (match T e with
    | some ⟨.int k, sz, _, _⟩ => (match v with
      | .agg xs => decide (n = 2) && decide (sz = 1) && (match xs.toList with
        | [.int k1 _, .int k2 _] => decide (k = k1) && decide (k = k2)
        | _ => false)
      | _ => false)
    | _ => false)
  | _ => false
/-- A slot's plain value. -/
def svVal : SV → Option Value
  | .one (.c v) => some v
  | .agg xs => (go xs).map fun vs => .agg vs.toArray
  | _ => none
where go : List Cell → Option (List Value)
    | [] => some []
    | .c v :: xs => (go xs).map (v :: ·)
    | _ => none

section
variable (E : Env) {α : Type}

def opds : List Operand → (List SV → AM α) → AM α
  | [], K => K []
  | x :: xs, K => opd E.n E.G x fun v => opds xs fun vs => K (v :: vs)

def opCs : List Operand → (List Cell → AM α) → AM α
  | [], K => K []
  | x :: xs, K => opC E.n E.G x fun v => opCs xs fun vs => K (v :: vs)

/-- What is appended: where it is one's own, may its elements be shared, their size, how many, the cells. -/
def srcAM (el : Ty) (x : Cell) (K : Option (Nat × Nat) → Bool → Nat → Nat → List Cell → AM Unit) : AM Unit := match x with
  | .c v => (match v with
    | .slice _ n _ => if n = 0 then K none true el.size 0 [] else .fail
    | .string b => K none true 1 b.size (b.data.toList.map fun u => .c (.int .u8 u.toNat))
    | _ => .fail)
  | .sl _ sz m ds => K none true sz m ds
  | .hd r i k => atP r i k fun _ y => match y with
    | .sl es sz m ds => (match k, es with
      | none, false => K (some (r, i)) true sz m ds
      | none, true => K none true sz m ds
      | some _, _ => K none false sz m ds)
    | .shd z => (match z with
      | .sl _ sz m ds => K none true sz m ds
      | _ => .fail)
    | _ => .fail
  | _ => .fail
def putAM (d : Option Tmp) (el : Ty) (es : Bool) (n m : Nat) (cs ds : List Cell) : AM Unit :=
  .test ((n + m) * el.bytes ≤ 140737488355328) (setN d (.one (.hd (d.getD 0) 0 none)) [.sl es el.size (n + m) (cs ++ ds)])
def goAM (d : Option Tmp) (el : Ty) (es0 : Bool) (n : Nat) (cs : List Cell) (rt : Option (Nat × Nat)) (ok : Bool) (sz m : Nat) (ds : List Cell) : AM Unit :=
  if sz ≠ el.size then .fail else .test (ds.all okC = true) <|
  if flat el.desc then (if es0 then .fail else .test (Plain ds) (putAM d el false n m cs ds)) else
  if !ok then .fail else match rt with
    | some (r, i) => if es0 || E.force.contains (d.getD 0) then setP r i (.shd (.sl false sz m (roL ds))) none (putAM d el true n m (roL cs) (roL ds))
      else setP r i .hole none (putAM d el false n m cs ds)
    | none => putAM d el true n m (roL cs) (roL ds)
def appendAM (d : Option Tmp) (el : Ty) (s x : Cell) : AM Unit := if el.bytes = 0 then .fail else match s with
  | .c v => (match v with
    | .slice none n k => if n = 0 ∧ k = 0 then srcAM el x fun rt ok sz m ds => .ite (decide (m = 0)) (setD d (.one (.c (.slice none 0 0)))) (goAM E d el false 0 [] rt ok sz m ds) else .fail
    | _ => .fail)
  | .hd r i none => atP r i none fun _ y => match y with
    | .sl es sz n cs => if sz ≠ el.size then .fail else setP r i .hole none (srcAM el x (goAM E d el es n cs))
    | _ => .fail
  | _ => .fail

/-- Zero values are appended to nil. -/
def zerosAM (d : Option Tmp) (el : Ty) (u : Option Ty) (s x : Operand) : AM Unit := match u with
  | some ⟨.int .i64, _, _, _⟩ => opC E.n E.G s fun a => opI E.n E.G x fun _ m => match a with
    | .c (.slice none 0 0) => .test (0 ≤ m ∧ m * el.bytes ≤ 140737488355328) (if el.bytes = 0 then .fail else setN d (.one (.hd (d.getD 0) 0 none)) [.sl false el.size m.toNat (zeros el m.toNat)])
    | _ => .fail
  | _ => .fail

def elSize (T : TypeId → Option Ty) (t : TypeId) : Option Nat := match T t with
  | some ⟨.slice e, _, _, _⟩ => (T e).map (·.size)
  | _ => none
def cutAM (el : Option Nat) (lo hi : Option Int) (es : Bool) (sz n : Nat) (cs : List Cell) (K : Cell → AM α) : AM α := if el ≠ some sz then .fail else match lo, hi with
    | none, none => K (.sl es sz n cs)
    | some l, none => .test (0 ≤ l ∧ l ≤ n) (K (.sl es sz (n - l.toNat) (cs.drop (l.toNat * sz))))
    | none, some h => .test (0 ≤ h ∧ h ≤ n) (K (.sl es sz h.toNat (cs.take (h.toNat * sz))))
    | some l, some h => .test (0 ≤ l ∧ l ≤ h ∧ h ≤ n) (K (.sl es sz (h.toNat - l.toNat) ((cs.drop (l.toNat * sz)).take ((h.toNat - l.toNat) * sz))))
def sliceAM (st : Bool) (el : Option Nat) (x : Cell) (lo hi : Option Int) (K : SV → AM α) : AM α := match x with
  | .c v => (match v with
    | .string s => if !st then .fail else
      .test (0 ≤ lo.getD 0 ∧ lo.getD 0 ≤ hi.getD s.size ∧ hi.getD s.size ≤ s.size) (K (.one (.c (.string (s.extract (lo.getD 0).toNat (hi.getD s.size).toNat)))))
    | .slice none n k => if el.isNone || n != 0 || k != 0 then .fail else .test (lo.getD 0 = 0 ∧ hi.getD 0 = 0) (K (.one (.c (.slice none 0 0))))
    | _ => .fail)
  | .sl es sz n cs => cutAM el lo hi es sz n cs fun y => K (.one y)
  | .hd r i none => atP r i none fun _ y => match y with
    | .sl _ sz n cs => setP r i (.shd (.sl false sz n cs)) none (cutAM el lo hi false sz n cs fun z => K (.one z))
    | .shd z => (match z with
      | .sl es sz n cs => cutAM el lo hi es sz n cs fun z => K (.one z)
      | _ => .fail)
    | _ => .fail
  | _ => .fail

/-- A slice of one's own is cut short; it stays one's own. -/
def ownCutAM (d : Option Tmp) (el : Option Nat) (x : Cell) (h : Int) : AM Unit := match x with
  | .hd r i none => atP r i none fun _ y => match y with
    | .sl es sz n cs => if el ≠ some sz then .fail else .test (0 ≤ h ∧ h ≤ n) (setP r i .hole none (setN d (.one (.hd (d.getD 0) 0 none)) [.sl es sz h.toNat (cs.take (h.toNat * sz))]))
    | _ => .fail
  | _ => .fail

/-- What is handed over for good or to be changed is taken first; then what is read. -/
def pkArgs : List PM → List SV → (List (List Cell) → AM α) → AM α
  | _, [], K => K []
  | ms, v :: vs, K => match ms.headD .ro with
    | .ro | .sh => pkArgs ms.tail vs fun ps => K ([] :: ps)
    | _ => pkL 12 (svCells v) fun ys => pkArgs ms.tail vs fun ps => K (ys :: ps)
def rdArgs : List PM → List SV → List (List Cell) → (List Arg → AM α) → AM α
  | ms, v :: vs, p :: ps, K => if svOk v then (match ms.headD .ro with
    | .ro => rdL 12 (svCells v) fun ys => rdArgs ms.tail vs ps fun as => K (⟨.ro, svLike v ys⟩ :: as)
    | .sh => frzL (svCells v) (rdL 12 (svCells v) fun ys => rdArgs ms.tail vs ps fun as => K (⟨.ro, svLike v ys⟩ :: as))
    | m => rdArgs ms.tail vs ps fun as => K (⟨m, svLike v p⟩ :: as)) else .fail
  | _, [], [], K => K []
  | _, _, _, _ => .fail
def sameK : SV → SV → Bool
  | .one _, .one _ => true
  | .agg _, .agg _ => true
  | _, _ => false
def backAM : List PM → List SV → List SV → AM α → AM α
  | _, [], os, K => (match os with
    | [] => K
    | _ => .fail)
  | ms, v :: vs, os, K => match ms.headD .ro with
    | .mu => (match os with
      | o :: os => if sameK v o then bkL (svCells v) (svCells o) (backAM ms.tail vs os K) else .fail
      | [] => .fail)
    | _ => backAM ms.tail vs os K
def svShd : SV → Bool
  | .one x => hasShd x
  | .agg xs => hasShdL xs
  | .tup vs => vs.any fun v => hasShdL v.2
  | .dead => false
/-- No names. -/
def bare : Cell → Bool
  | .c _ | .sl .. | .mp .. | .ptr _ => true
  | .fn _ [] => true
  | _ => false
def bares : List PM → List SV → Bool
  | _, [] => true
  | ms, v :: vs => (match ms.headD .ro with
    | .ro => (svCells v).all bare
    | _ => true) && bares ms.tail vs
/-- What is lent to be changed. -/
def rootsF : List Cell → List (Nat × Nat)
  | [] => []
  | .hd r i none :: xs => (r, i) :: rootsF xs
  | _ :: xs => rootsF xs
def rootsL : List Cell → List (Nat × Nat)
  | [] => []
  | .hd r i none :: xs => (r, i) :: rootsL xs
  | .fn _ caps :: xs => rootsF caps ++ rootsL xs
  | _ :: xs => rootsL xs
def muRoots : List PM → List SV → List (Nat × Nat)
  | _, [] => []
  | ms, v :: vs => match ms.headD .ro with
    | .mu => rootsL (svCells v) ++ muRoots ms.tail vs
    | _ => muRoots ms.tail vs
def inL (l : List (Nat × Nat)) : Nat → Nat → Bool := fun r i => l.any fun x => x.1 == r && x.2 == i
def callAM (d : Option Tmp) (f : FuncId) (vs : List SV) : AM Unit :=
  pkArgs (E.sig f) vs fun ps => rdArgs (E.sig f) vs ps fun as => .call f as fun r =>
    if (svShd r.v || r.outs.any svShd) && !bares (E.sig f) vs then .fail else
    if !((muRoots (E.sig f) vs).isEmpty || vs.all (noSV (inL (muRoots (E.sig f) vs)))) then .fail else
    backAM (E.sig f) vs r.outs (setR d r.v)

def partOff (T : TypeId → Option Ty) (d : TypeDesc) (i : Nat) : Option (Nat × Nat) := match d with
  | .struct fs => fs[i]?.bind fun f => (T f.type).map fun t => (f.offset, t.size)
  | .array _ e => (T e).map fun t => (i * t.size, t.size)
  | _ => none
def buildAM (d : TypeDesc) : List (Nat × Operand) → List Cell → (List Cell → AM α) → AM α
  | [], cs, K => K cs
  | (i, x) :: ps, cs, K => match partOff E.T d i with
    | some (off, size) => opd E.n E.G x fun v => if (svCells v).length = size && off + size ≤ cs.length && svOk v && (svCells v).all wrC then buildAM d ps (splice cs off (svCells v)) K else .fail
    | none => .fail
def buildSlAM (size : Nat) : List (Nat × Operand) → List Cell → (List Cell → AM α) → AM α
  | [], cs, K => K cs
  | (i, x) :: ps, cs, K => opd E.n E.G x fun v =>
      pkL 12 (svCells v) fun ys => if ys.length = size && i * size + size ≤ cs.length && svOk v && ys.all okC then buildSlAM size ps (splice cs (i * size) ys) K else .fail
/-- Are all the parts' types told? -/
def partsOk (T : TypeId → Option Ty) : TypeDesc → Bool
  | .struct fs => fs.toList.all fun f => (T f.type).isSome
  | .array _ e => (T e).isSome
  | _ => false

/-- The map that a cell leads to; must what is found be plain? -/
def lookAM (c : Cell) (K : Bool → List Value → List Cell → AM α) : AM α := match c with
  | .c v => (match v with
    | .map none => K false [] []
    | _ => .fail)
  | .mp _ ks cs => K false ks cs
  | .hd r i none => atP r i none fun _ y => match y with
    | .mp es ks cs => K (!es) ks cs
    | .shd z => (match z with
      | .mp _ ks cs => K false ks cs
      | _ => .fail)
    | _ => .fail
  | _ => .fail
def lookRes (d : Option Tmp) (ok : Bool) (x : Cell) (b : Bool) : AM Unit := setD d (if ok then .tup [(false, [x]), (false, [.c (.bool b)])] else .one x)
def updAM (good : Value → Bool) (c : Cell) (key : Value) (v : Cell) (K : AM α) : AM α := match c with
  | .hd r i none => atP r i none fun _ y => match y with
    | .mp es ks cs => .test (∀ x ∈ ks, good x = true) <| (match es with
      | false => if isC v then setP r i (.mp false (putK key ks) (putM key ks v cs)) none K else .fail
      | true => if !wrC v then .fail else frzL [v] (rdC 12 v fun z => atP r i none fun _ y => match y with
        | .mp true ks cs => .test (∀ x ∈ ks, good x = true) <| setP r i (.mp true (putK key ks) (putM key ks z cs)) none K
        | _ => .fail))
    | _ => .fail
  | _ => .fail

def isSlD : Option Ty → Bool
  | some ⟨.slice _, _, _, _⟩ => true
  | _ => false
def isByD (T : TypeId → Option Ty) : TypeDesc → Bool
  | .slice e => match T e with
    | some ⟨.int .u8, _, _, _⟩ => true
    | _ => false
  | _ => false
def isStD : Option Ty → Bool
  | some ⟨.string, _, _, _⟩ => true
  | _ => false
/-- No kind of integer, as far as is told. -/
def isIntD : Option Ty → Bool
  | some ⟨.slice _, _, _, _⟩ | some ⟨.string, _, _, _⟩ => false
  | _ => true
/-- Is a slice nil? -/
def eqNilAM (x : Cell) (K : Bool → AM α) : AM α := match x with
  | .c v => (match v with
    | .slice a _ _ => K a.isNone
    | _ => .fail)
  | .sl _ _ n _ => .test (0 < n) (K false)
  | .hd r i k => atP r i k fun _ y => match y with
    | .sl _ _ n _ | .shd (.sl _ _ n _) => .test (0 < n) (K false)
    | _ => .fail
  | _ => .fail

/-- What is loaded is taken out of the slice that holds it: the slot owns it. -/
def takeAM (d : Option Tmp) (v : SV) : AM Unit := match v with
  | .one x => pkL 12 [x] fun ys => match ys with
    | [y] => setR d (.one y)
    | _ => .fail
  | _ => .fail
def astep (o : Oper) : AM Unit := match o.op with
  | .move x | .assign x => opd E.n E.G x fun v => setD o.dst v
  | .pick c a b => opB E.n E.G c fun t => .ite t (opd E.n E.G a fun v => setD o.dst v) (opd E.n E.G b fun v => setD o.dst v)
  | .alloc t => match E.T t with
    | some ty => setN o.dst (.one (.hd (o.dst.getD 0) 0 none)) [.ptr (ty.zero.cells.toList.map .c)]
    | none => .fail
  | .box _ x => opd E.n E.G x fun v => if svOk v && (svCells v).all wrC then setN o.dst (.one (.hd (o.dst.getD 0) 0 none)) [.ptr (svCells v)] else .fail
  | .build t ps => match E.T t with
    | some ty => if !partsOk E.T ty.desc then .fail else buildAM E ty.desc ps.toList (ty.zero.cells.toList.map .c) fun cs => setD o.dst (.agg cs)
    | none => .fail
  | .buildSlice t len ps => match E.T t with
    | some ⟨.slice e, _, _, _⟩ => match E.T e with
      | some el => if len * el.size > 65536 || el.size = 0 then .fail else
        buildSlAM E el.size ps.toList (zeros el len) fun cs =>
          if E.force.contains (o.dst.getD 0) || hasShdL cs then setN o.dst (.one (.hd (o.dst.getD 0) 0 none)) [.sl true el.size len (roL cs)]
          else setN o.dst (.one (.hd (o.dst.getD 0) 0 none)) [.sl false el.size len cs]
      | none => .fail
    | _ => .fail
  | .load t a => match E.T t with
    | some ty => if isAggD ty.desc || ty.size == 1 then opC E.n E.G a fun c => loadAM ty c fun v => if E.force.contains (2000 + o.dst.getD 0) then takeAM o.dst v else setD o.dst v else .fail
    | none => .fail
  | .store t a x => match E.T t with
    | some ty => opC E.n E.G a fun c => opd E.n E.G x fun v => storeAM ty c v (setD o.dst (.one (.c undef)))
    | none => .fail
  | .nilCheck x => opC E.n E.G x fun c => match c with
    | .ptr _ | .ad _ _ none _ => setD o.dst (.one c)
    | .hd r i none => atP r i none fun _ y => match y with
      | .ptr _ | .shd (.ptr _) => setD o.dst (.one c)
      | _ => .fail
    | _ => .fail
  | .binOp op ty x y _ => opC E.n E.G x fun a => opC E.n E.G y fun b => match a, b with
    | a, .c (.slice none _ _) => if isSlD (E.T ty) then (match op with
      | .eql => eqNilAM a fun z => setD o.dst (.one (.c (.bool z)))
      | .neq => eqNilAM a fun z => setD o.dst (.one (.c (.bool !z)))
      | _ => .fail) else .fail
    | .c u, .c v => binV op ((E.T ty).map (·.desc)) u v fun z => setD o.dst (.one (.c z))
    | _, _ => .fail
  | .unOp op _ x => opV E.n E.G x fun v => unV op v fun z => setD o.dst (.one (.c z))
  | .convert s t x => match E.T s, E.T t with
    | some sd, some td => opC E.n E.G x fun c => rdC 12 c fun c => convV (isByD E.T sd.desc) td.desc c fun z => setD o.dst (.one z)
    | _, _ => .fail
  | .makeFunc f first caps => if first.size = 0 then opCs E caps.toList fun xs => setD o.dst (.one (.fn f xs)) else .fail
  | .makeMap t none => match E.T t with
    | some ⟨.map _ e, _, _, _⟩ => match E.T e with
      | some el => setN o.dst (.one (.hd (o.dst.getD 0) 0 none)) [.mp (!flat el.desc) [] []]
      | none => .fail
    | _ => .fail
  | .makeSlice t l c => match E.T t with
    | some ⟨.slice e, _, _, _⟩ => match E.T e with
      | some el => opI E.n E.G l fun _ l => opI E.n E.G c fun _ c =>
        .test (0 ≤ l ∧ l ≤ c ∧ c * el.bytes ≤ 140737488355328) (if el.bytes = 0 then .fail else setN o.dst (.one (.hd (o.dst.getD 0) 0 none)) [.sl (E.force.contains (o.dst.getD 0)) el.size l.toNat (zeros el l.toNat)])
      | none => .fail
    | _ => .fail
  | .slice t x lo hi none => opC E.n E.G x fun c =>
    if E.force.contains (1000 + o.dst.getD 0) then (match lo, hi with
      | none, some h => opI E.n E.G h fun _ h => ownCutAM o.dst (elSize E.T t) c h
      | _, _ => .fail) else
    let go (l h : Option Int) : AM Unit := sliceAM (isStD (E.T t)) (elSize E.T t) c l h fun v => setD o.dst v
    match lo, hi with
    | none, none => go none none
    | some l, none => opI E.n E.G l fun _ l => go (some l) none
    | none, some h => opI E.n E.G h fun _ h => go none (some h)
    | some l, some h => opI E.n E.G l fun _ l => opI E.n E.G h fun _ h => go (some l) (some h)
  | .fieldAddr t x f => match E.T t with
    | some ⟨.struct fs, _, _, _⟩ => match fs[f]? with
      | some fd => match E.T fd.type with
        | some fty => if fty.size = 0 then .fail else opC E.n E.G x fun c => fieldAddrAM fd.offset c fun z => setD o.dst (.one z)
        | none => .fail
      | none => .fail
    | _ => .fail
  | .indexAddr t x ix => match E.T t with
    | some ⟨.slice e, _, _, _⟩ => match E.T e with
      | some el => if el.size = 0 then .fail else opC E.n E.G x fun c => opI E.n E.G ix fun _ n => indexAddrAM el.size c n fun z => setD o.dst (.one z)
      | none => .fail
    | some ⟨.array len e, _, _, _⟩ => match E.T e with
      | some el => opC E.n E.G x fun c => opI E.n E.G ix fun _ n => match c with
        | .ptr cs => .test (0 ≤ n ∧ n < len ∧ n.toNat * el.size ≤ cs.length) (setD o.dst (.one (.ptr (cs.drop (n.toNat * el.size)))))
        | _ => .fail
      | none => .fail
    | _ => .fail
  | .index t x ix => opV E.n E.G x fun v => opI E.n E.G ix fun _ n => match v with
    | .string s => if !isStD (E.T t) then .fail else .test (0 ≤ n ∧ n < s.size) (setD o.dst (.one (.c (.int .u8 ((s.data.toList.getD n.toNat 0).toNat : Int)))))
    | _ => .fail
  | .field t x f => match E.T t with
    | some ⟨.struct fs, _, _, _⟩ => match fs[f]? with
      | some fd => match E.T fd.type with
        | some ty => opd E.n E.G x fun v => match v with
          | .agg xs => if ((xs.drop fd.offset).take ty.size).length = ty.size && (isAggD ty.desc || ty.size == 1) then setD o.dst (svMk (isAggD ty.desc) ((xs.drop fd.offset).take ty.size)) else .fail
          | _ => .fail
        | none => .fail
      | none => .fail
    | _ => .fail
  | .extract x i => opd E.n E.G x fun v => match v with
    | .tup vs => match vs[i]? with
      | some (b, xs) => setD o.dst (svMk b xs)
      | none => .fail
    | _ => .fail
  | .lookup t m k ok => match E.T t with
    | some ⟨.map kt e, _, _, _⟩ => match E.T e with
      | some el => if isAggD el.desc then .fail else opC E.n E.G m fun c => opd E.n E.G k fun kv => match svVal kv with
        | some key => if keyOk E.T kt key then lookAM c fun pl ks cs =>
            .test (∀ x ∈ ks, keyOk E.T kt x = true) <| .opt (getM key ks cs) (fun x => if pl && !isC x then .fail else lookRes o.dst ok x true) (lookRes o.dst ok (.c el.zero) false)
          else .fail
        | none => .fail
      | none => .fail
    | _ => .fail
  | .mapUpdate t m k x | .insert t m k x => match E.T t with
    | some ⟨.map kt _, _, _, _⟩ => opC E.n E.G m fun c => opd E.n E.G k fun kv => opC E.n E.G x fun v => match svVal kv with
      | some key => if keyOk E.T kt key then updAM (keyOk E.T kt) c key v (setD o.dst (.one (.c undef))) else .fail
      | none => .fail
    | _ => .fail
  | .call c => match c.callee with
    | .value f => opC E.n E.G f fun g => match g with
      | .fn (.func g) caps => opds E c.args.toList fun vs => callAM E o.dst g (vs ++ caps.map SV.one)
      | _ => .fail
    | .builtin .len => match c.args.toList, c.argTypes.toList with
      | [x], [t] => match E.T t with
        | some ty => opC E.n E.G x fun a => lenAM ty.desc a fun n => setD o.dst (.one (.c (.int .i64 n)))
        | none => .fail
      | _, _ => .fail
    | .builtin .cap => match c.args.toList, c.argTypes.toList with
      | [x], [t] => if isSlD (E.T t) then opC E.n E.G x fun a => match a with
        | .c (.slice none _ k) => setD o.dst (.one (.c (.int .i64 k)))
        | _ => .fail
        else .fail
      | _, _ => .fail
    | .builtin .append => match c.args.toList, c.argTypes.toList with
      | [s, x], [t, u] => match E.T t with
        | some ⟨.slice e, _, _, _⟩ => match E.T e with
          | some el => if isIntD (E.T u) then zerosAM E o.dst el (E.T u) s x else opC E.n E.G s fun a => opC E.n E.G x fun b => appendAM E o.dst el a b
          | none => .fail
        | _ => .fail
      | _, _ => .fail
    | .builtin .min => match c.args.toList with
      | [x, y] => opI E.n E.G x fun k a => opI E.n E.G y fun k' b => if k = k' then setD o.dst (.one (.c (.int k (if b < a then b else a)))) else .fail
      | _ => .fail
    | .builtin .max => match c.args.toList with
      | [x, y] => opI E.n E.G x fun k a => opI E.n E.G y fun k' b => if k = k' then setD o.dst (.one (.c (.int k (if b > a then b else a)))) else .fail
      | _ => .fail
    | _ => .fail
  | _ => .fail

/-- A slot that names an element of a slice of one's own: the element is taken out, the slot owns it. The machine's state stays. -/
def takeT (T : Nat) (K : AM Unit) : AM Unit := .getS T fun v => match v with
  | .one (.hd r i (some k)) => pkC 12 (.hd r i (some k)) fun y => .get T fun e => match e.r with
    | [] => .put T ⟨(openSV T 0 (.one y)).1, (openSV T 0 (.one y)).2⟩ K
    | _ => .fail
  | .agg xs => pkL 12 xs fun ys => .get T fun e => match e.r with
    | [] => .put T ⟨(openSV T 0 (.agg ys)).1, (openSV T 0 (.agg ys)).2⟩ K
    | _ => .fail
  | _ => .fail
/-- What a slot holds is forgotten. -/
def dropT (T : Nat) (K : AM Unit) : AM Unit := .get T fun e => .put T ⟨.dead, e.r⟩ K
def opKey (o : Oper) : Nat := match o.op with
  | .store _ (.tmp n) _ => 1000 + n
  | _ => o.dst.getD 0
/-- What is taken ahead of an operation: 1000 * (4000 + the store's address, or 3000 + the result) + slot, in the list; what is forgotten: 1000 * (100000 + ..) + slot. -/
def preAM (o : Oper) (K : AM Unit) : AM Unit := match E.force.find? (fun f => f / 1000 == 3000 + opKey o) with
  | some f => if f % 1000 < E.n then takeT (f % 1000) K else .fail
  | none => match E.force.find? (fun f => f / 1000 == 100000 + opKey o) with
    | some f => if f % 1000 < E.n then dropT (f % 1000) K else .fail
    | none => K
/-- An operation of a region: its guard is asked first. -/
def opAM (ops : Array Oper) (o : Oper) : AM Unit := if (o.dst.getD 0) < E.n then (match o.guard with
  | none => preAM E o (astep E o)
  | some (j, want) => match (ops[j]?).bind (·.dst) with
    | some t => if t < E.n then .get t fun e => (match e.s with
      | .one (.c (.bool b)) => (match want with
        | true => .ite b (astep E o) (setD o.dst (.one (.c undef)))
        | false => .ite b (setD o.dst (.one (.c undef))) (astep E o))
      | .one (.c (.tuple _)) => setD o.dst (.one (.c undef))
      | _ => .fail) else .fail
    | none => .fail) else .fail
end
end Go.Den

/- What the machine on trees says of the machine's own slots and memory; how it is kept from step to step. -/
namespace Go.Den

/-! ### Two worlds -/
/-- What is not in D, and was there, is as it was. -/
structure Ext (D : Nat → Prop) (w w' : World) : Prop where
  os : w'.os = w.os
  tape : w'.tape = w.tape
  output : w'.output = w.output
  drawn : w.drawn ≤ w'.drawn
  size : w.heap.size ≤ w'.heap.size
  keep : ∀ b, b < w.heap.size → ¬ D b → w'.heap[b]? = w.heap[b]?
theorem Ext.refl (D : Nat → Prop) (w : World) : Ext D w w := ⟨rfl, rfl, rfl, Nat.le_refl _, Nat.le_refl _, fun _ _ _ => rfl⟩
theorem Ext.trans {D D' : Nat → Prop} {a b c : World} (h : Ext D a b) (k : Ext D' b c) (hd : ∀ x, D' x → D x ∨ a.heap.size ≤ x) : Ext D a c :=
  ⟨k.os.trans h.os, k.tape.trans h.tape, k.output.trans h.output, Nat.le_trans h.drawn k.drawn, Nat.le_trans h.size k.size, fun x hx hn =>
    (k.keep x (Nat.lt_of_lt_of_le hx h.size) fun hx' => (hd x hx').elim hn (by omega)).trans (h.keep x hx hn)⟩
theorem Ext.mono {D D' : Nat → Prop} {w w' : World} (h : Ext D w w') (hd : ∀ x, D x → D' x) : Ext D' w w' :=
  ⟨h.os, h.tape, h.output, h.drawn, h.size, fun x hx hn => h.keep x hx fun h' => hn (hd x h')⟩
theorem Ext.alloc (D : Nat → Prop) (w : World) (o : Obj) : Ext D w (w.alloc o) :=
  ⟨rfl, rfl, rfl, Nat.le_refl _, by simp, fun b hb _ => by show (w.heap.push o)[b]? = _; rw [Array.getElem?_push, if_neg (Nat.ne_of_lt hb)]⟩
theorem Ext.drew (D : Nat → Prop) (w : World) : Ext D w w.drew := ⟨rfl, rfl, rfl, Nat.le_succ _, Nat.le_refl _, fun _ _ _ => rfl⟩

/-! ### Slots -/
def addrOf : Value → Option Addr
  | .slice a _ _ => a
  | .pointer a => a
  | _ => none
/-- A value of one cell; its address is a whole cell's. -/
def HdrV (v : Value) : Prop := v.oneCell' = true ∧ ∀ A, addrOf v = some A → A.spot = none
theorem hdr_slice (b n c : Nat) : HdrV (.slice (some ⟨b, 0, none⟩) n c) := ⟨rfl, fun A h => by cases h; rfl⟩
theorem hdr_nil (n c : Nat) : HdrV (.slice none n c) := ⟨rfl, fun A h => by cases h⟩
theorem hdr_ptr (b : Nat) : HdrV (.pointer (some ⟨b, 0, none⟩)) := ⟨rfl, fun A h => by cases h; rfl⟩
theorem hdr_map (b : Nat) : HdrV (.map (some b)) := ⟨rfl, fun A h => by cases h⟩
/-- The value of a cell of what a header leads to. -/
def elemV (w : World) (v : Value) (k : Nat) : Option Value := (addrOf v).bind fun a => w.cell? (a.add k)
def isHdr : Cell → Bool
  | .sl .. | .mp .. | .ptr _ | .hole => true
  | _ => false

mutual
inductive SCell (w : World) (Z : Nat → Prop) (R : Nat → List Cell) (RV : Nat → Nat → Value) : Cell → Value → Prop
  | c (v : Value) : SCell w Z R RV (.c v) v
  | hole (v : Value) : SCell w Z R RV .hole v
  | sh {x : Cell} {v : Value} (h : Sh w Z x v) : SCell w Z R RV x v
  | hd {r i : Nat} (h : i < (R r).length) : SCell w Z R RV (.hd r i none) (RV r i)
  | hde {r i k : Nat} {v : Value} (h : i < (R r).length) (hv : ∀ x, getC (R r) i (some k) = some x → isHdr x = true → elemV w (RV r i) k = some v) : SCell w Z R RV (.hd r i (some k)) v
  | ad {r i j : Nat} {a : Addr} (h : i < (R r).length) (ha : addrOf (RV r i) = some a) : SCell w Z R RV (.ad r i none j) (.pointer (some (a.add j)))
  | ade {r i k j : Nat} {v : Value} (h : i < (R r).length)
      (hv : ∀ x, getC (R r) i (some k) = some x → isHdr x = true → ∃ u a, elemV w (RV r i) k = some u ∧ addrOf u = some a ∧ v = .pointer (some (a.add j))) :
      SCell w Z R RV (.ad r i (some k) j) v
  | fn {f : Fn} {caps : List Cell} {vs : List Value} (h : SCells w Z R RV caps vs) : SCell w Z R RV (.fn f caps) (.func f #[] vs.toArray)
inductive SCells (w : World) (Z : Nat → Prop) (R : Nat → List Cell) (RV : Nat → Nat → Value) : List Cell → List Value → Prop
  | nil : SCells w Z R RV [] []
  | cons {x : Cell} {v : Value} {xs : List Cell} {vs : List Value} (h : SCell w Z R RV x v) (t : SCells w Z R RV xs vs) : SCells w Z R RV (x :: xs) (v :: vs)
end

/-- Names lead where they led. -/
structure Refs (w w' : World) (R R' : Nat → List Cell) (RV RV' : Nat → Nat → Value) : Prop where
  len : ∀ r i, i < (R r).length → i < (R' r).length ∧ RV' r i = RV r i
  elem : ∀ r i k x, i < (R r).length → getC (R' r) i (some k) = some x → isHdr x = true →
    ∃ x0, getC (R r) i (some k) = some x0 ∧ isHdr x0 = true ∧ elemV w' (RV r i) k = elemV w (RV r i) k
mutual
theorem SCell.mono {w w' : World} {Z Z' : Nat → Prop} {R R' : Nat → List Cell} {RV RV' : Nat → Nat → Value} (hz : ∀ b, Z b → Z' b)
    (hw : ∀ b, Z b → w'.heap[b]? = w.heap[b]?) (hr : Refs w w' R R' RV RV') : ∀ {x : Cell} {v : Value}, SCell w Z R RV x v → SCell w' Z' R' RV' x v
  | _, _, .c v => .c v
  | _, _, .hole v => .hole v
  | _, _, .sh h => .sh (h.frame hz hw)
  | _, _, .hd (r := r) (i := i) h => by
    have := hr.len r i h
    rw [← this.2]
    exact .hd this.1
  | _, _, .hde (r := r) (i := i) h hv => by
    have := hr.len r i h
    refine .hde this.1 fun x hx hh => ?_
    obtain ⟨x0, h0, h1, h2⟩ := hr.elem r i _ x h hx hh
    rw [this.2, h2]
    exact hv x0 h0 h1
  | _, _, .ad (r := r) (i := i) h ha => by
    have := hr.len r i h
    exact .ad this.1 (by rw [this.2]; exact ha)
  | _, _, .ade (r := r) (i := i) h hv => by
    have := hr.len r i h
    refine .ade this.1 fun x hx hh => ?_
    obtain ⟨x0, h0, h1, h2⟩ := hr.elem r i _ x h hx hh
    rw [this.2, h2]
    exact hv x0 h0 h1
  | _, _, .fn h => .fn (SCells.mono hz hw hr h)
theorem SCells.mono {w w' : World} {Z Z' : Nat → Prop} {R R' : Nat → List Cell} {RV RV' : Nat → Nat → Value} (hz : ∀ b, Z b → Z' b)
    (hw : ∀ b, Z b → w'.heap[b]? = w.heap[b]?) (hr : Refs w w' R R' RV RV') : ∀ {xs : List Cell} {vs : List Value}, SCells w Z R RV xs vs → SCells w' Z' R' RV' xs vs
  | _, _, .nil => .nil
  | _, _, .cons h t => .cons (SCell.mono hz hw hr h) (SCells.mono hz hw hr t)
end

section
variable {w : World} {Z : Nat → Prop} {R : Nat → List Cell} {RV : Nat → Nat → Value}
theorem SCells.length : ∀ {xs : List Cell} {vs : List Value}, SCells w Z R RV xs vs → xs.length = vs.length
  | _, _, .nil => rfl
  | _, _, .cons _ t => by simp [t.length]
theorem SCells.append : ∀ {xs ys : List Cell} {vs us : List Value}, SCells w Z R RV xs vs → SCells w Z R RV ys us → SCells w Z R RV (xs ++ ys) (vs ++ us)
  | _, _, _, _, .nil, h => h
  | _, _, _, _, .cons h t, h' => .cons h (t.append h')
theorem SCells.take : ∀ {xs : List Cell} {vs : List Value}, SCells w Z R RV xs vs → ∀ n, SCells w Z R RV (xs.take n) (vs.take n)
  | _, _, .nil, n => by simp; exact .nil
  | _, _, .cons _ _, 0 => .nil
  | _, _, .cons h t, n + 1 => .cons h (t.take n)
theorem SCells.drop : ∀ {xs : List Cell} {vs : List Value}, SCells w Z R RV xs vs → ∀ n, SCells w Z R RV (xs.drop n) (vs.drop n)
  | _, _, .nil, n => by simp; exact .nil
  | _, _, .cons h t, 0 => .cons h t
  | _, _, .cons _ t, n + 1 => t.drop n
theorem SCells.get : ∀ {xs : List Cell} {vs : List Value}, SCells w Z R RV xs vs → ∀ {i : Nat} {x : Cell}, xs[i]? = some x → ∃ v, vs[i]? = some v ∧ SCell w Z R RV x v
  | _, _, .nil, i, x, h => by simp at h
  | _, _, .cons (v := v) h t, 0, x, hx => by simp at hx; subst hx; exact ⟨v, rfl, h⟩
  | _, _, .cons h t, i + 1, x, hx => by simpa using t.get (by simpa using hx)
/-- Plain cells. -/
theorem SCells.of_c : ∀ (vs : List Value), SCells w Z R RV (vs.map .c) vs
  | [] => .nil
  | v :: vs => .cons (.c v) (SCells.of_c vs)
theorem SCells.of_shs : ∀ {xs : List Cell} {vs : List Value}, Shs w Z xs vs → SCells w Z R RV xs vs
  | _, _, .nil => .nil
  | _, _, .cons h t => .cons (.sh h) (SCells.of_shs t)
theorem Shs.of_c : ∀ (vs : List Value), Shs w Z (vs.map .c) vs
  | [] => .nil
  | v :: vs => .cons (.c v) (Shs.of_c vs)
end

def STup (w : World) (Z : Nat → Prop) (R : Nat → List Cell) (RV : Nat → Nat → Value) : List (Bool × List Cell) → List Value → Prop
  | [], [] => True
  | (true, xs) :: ts, v :: vs => (∃ us, v = .agg us ∧ SCells w Z R RV xs us.toList) ∧ STup w Z R RV ts vs
  | (false, xs) :: ts, v :: vs => (∃ x, xs = [x] ∧ SCell w Z R RV x v) ∧ STup w Z R RV ts vs
  | _, _ => False
def Slot (w : World) (Z : Nat → Prop) (R : Nat → List Cell) (RV : Nat → Nat → Value) : SV → Value → Prop
  | .dead, _ => True
  | .one x, v => SCell w Z R RV x v
  | .agg xs, v => ∃ us, v = .agg us ∧ SCells w Z R RV xs us.toList
  | .tup ts, v => ∃ us : Array Value, v = .tuple us ∧ STup w Z R RV ts us.toList

section
variable {w w' : World} {Z Z' : Nat → Prop} {R R' : Nat → List Cell} {RV RV' : Nat → Nat → Value}
theorem STup.mono (hz : ∀ b, Z b → Z' b) (hw : ∀ b, Z b → w'.heap[b]? = w.heap[b]?) (hr : Refs w w' R R' RV RV') :
    ∀ {ts : List (Bool × List Cell)} {vs : List Value}, STup w Z R RV ts vs → STup w' Z' R' RV' ts vs
  | [], [], _ => trivial
  | (true, _) :: _, _ :: _, ⟨⟨us, e, h⟩, t⟩ => ⟨⟨us, e, h.mono hz hw hr⟩, STup.mono hz hw hr t⟩
  | (false, _) :: _, _ :: _, ⟨⟨x, e, h⟩, t⟩ => ⟨⟨x, e, h.mono hz hw hr⟩, STup.mono hz hw hr t⟩
  | [], _ :: _, h => h.elim
  | (true, _) :: _, [], h => h.elim
  | (false, _) :: _, [], h => h.elim
theorem Slot.mono (hz : ∀ b, Z b → Z' b) (hw : ∀ b, Z b → w'.heap[b]? = w.heap[b]?) (hr : Refs w w' R R' RV RV') {x : SV} {v : Value}
    (h : Slot w Z R RV x v) : Slot w' Z' R' RV' x v := by
  cases x with
  | dead => trivial
  | one x => exact SCell.mono hz hw hr h
  | agg xs => obtain ⟨us, e, h⟩ := h; exact ⟨us, e, h.mono hz hw hr⟩
  | tup ts => obtain ⟨us, e, h⟩ := h; exact ⟨us, e, h.mono hz hw hr⟩
end

/-! ### Named trees -/
/-- A named tree. What lies in a box is written as slots are. -/
def RC (w : World) (Z : Nat → Prop) (R : Nat → List Cell) (RV : Nat → Nat → Value) (x : Cell) (v : Value) (l : List Nat) : Prop := match x with
  | .ptr ys => ∃ (b : Nat) (cur : Array Value) (e : TypeId), v = .pointer (some ⟨b, 0, none⟩) ∧ l = [b] ∧ w.heap[b]? = some (.cells cur e (0, 0)) ∧ SCells w Z R RV ys cur.toList
  | x => Ow w Z x v l
theorem RC.mono {w w' : World} {Z Z' : Nat → Prop} {R R' : Nat → List Cell} {RV RV' : Nat → Nat → Value} (hz : ∀ b, Z b → Z' b)
    (hw : ∀ b, Z b → w'.heap[b]? = w.heap[b]?) (hr : Refs w w' R R' RV RV') {x : Cell} {v : Value} {l : List Nat} (hl : ∀ b, b ∈ l → w'.heap[b]? = w.heap[b]?)
    (h : RC w Z R RV x v l) : RC w' Z' R' RV' x v l := by
  unfold RC at *
  split at h
  · obtain ⟨b, cur, e, h1, h2, h3, h4⟩ := h
    exact ⟨b, cur, e, h1, h2, (hl b (by simp [h2])).trans h3, h4.mono hz hw hr⟩
  · exact h.frame hz hw hl

def Glob (G : Nat → Option (List Value)) (w : World) (Z : Nat → Prop) : Prop :=
  ∀ g vs, G g = some vs → Z g ∧ ∃ e fr, w.heap[g]? = some (.cells vs.toArray e fr)

/-- The state: what slots and names say is so. w0, B: the world at the call's begin, and the blocks that were handed over; Z: what is shared. -/
structure Inv (G : Nat → Option (List Value)) (w0 : World) (B : Nat → Prop) (Z0 : Nat → Prop) (S : Nat → SV) (R : Nat → List Cell) (tv : Nat → Value) (w : World)
    (Z : Nat → Prop) (RV : Nat → Nat → Value) (L : Nat → Nat → List Nat) : Prop where
  ext : Ext B w0 w
  glob : Glob G w Z
  zlt : ∀ b, Z b → b < w.heap.size
  zin : ∀ b, Z b → Z0 b ∨ B b ∨ w0.heap.size ≤ b
  zsub : ∀ b, Z0 b → Z b
  root : ∀ r i x, (R r)[i]? = some x → RC w Z R RV x (RV r i) (L r i)
  nodup : ∀ r i, (L r i).Nodup
  sep : ∀ r i r' i', (r, i) ≠ (r', i') → ∀ b, b ∈ L r i → b ∉ L r' i'
  own : ∀ r i b, b ∈ L r i → ¬ Z b ∧ b < w.heap.size ∧ (B b ∨ w0.heap.size ≤ b)
  out : ∀ r i, (R r)[i]? = none → L r i = []
  one : ∀ r i, i < (R r).length → HdrV (RV r i)
  slot : ∀ i, Slot w Z R RV (S i) (tv i)

/-- A slot is written. -/
theorem Inv.put {G : Nat → Option (List Value)} {w0 : World} {B Z0 : Nat → Prop} {S : Nat → SV} {R : Nat → List Cell} {tv : Nat → Value} {w : World}
    {Z : Nat → Prop} {RV : Nat → Nat → Value} {L : Nat → Nat → List Nat} (h : Inv G w0 B Z0 S R tv w Z RV L) {S' : Nat → SV} {tv' : Nat → Value}
    (hs : ∀ i, (S' i = S i ∧ tv' i = tv i) ∨ Slot w Z R RV (S' i) (tv' i)) : Inv G w0 B Z0 S' R tv' w Z RV L :=
  { h with slot := fun i => (hs i).elim (fun e => by rw [e.1, e.2]; exact h.slot i) id }

/-- Memory and names move on. D: the blocks that are written. -/
theorem Inv.step {G : Nat → Option (List Value)} {w0 : World} {B Z0 : Nat → Prop} {S : Nat → SV} {R : Nat → List Cell} {tv : Nat → Value} {w : World}
    {Z : Nat → Prop} {RV : Nat → Nat → Value} {L : Nat → Nat → List Nat} (h : Inv G w0 B Z0 S R tv w Z RV L)
    {R' : Nat → List Cell} {w' : World} {Z' : Nat → Prop} {RV' : Nat → Nat → Value} {L' : Nat → Nat → List Nat} {D : Nat → Prop}
    (hx : Ext D w w') (hd : ∀ b, D b → ¬ Z b ∧ (B b ∨ w0.heap.size ≤ b)) (hz : ∀ b, Z b → Z' b)
    (hz' : ∀ b, Z' b → Z b ∨ (b < w'.heap.size ∧ (B b ∨ w0.heap.size ≤ b)))
    (hr : Refs w w' R R' RV RV')
    (hroot : ∀ r i x, (R' r)[i]? = some x → ((R r)[i]? = some x ∧ L' r i = L r i ∧ ∀ b, b ∈ L r i → ¬ D b) ∨ RC w' Z' R' RV' x (RV' r i) (L' r i))
    (hn : ∀ r i, (L' r i).Nodup) (hsep : ∀ r i r' i', (r, i) ≠ (r', i') → ∀ b, b ∈ L' r i → b ∉ L' r' i')
    (hown : ∀ r i b, b ∈ L' r i → ¬ Z' b ∧ b < w'.heap.size ∧ (B b ∨ w0.heap.size ≤ b)) (hout : ∀ r i, (R' r)[i]? = none → L' r i = []) (hone : ∀ r i, i < (R' r).length → HdrV (RV' r i)) :
    Inv G w0 B Z0 S R' tv w' Z' RV' L' := by
  have hw : ∀ b, Z b → w'.heap[b]? = w.heap[b]? := fun b hb => hx.keep b (h.zlt b hb) fun hd' => (hd b hd').1 hb
  refine ⟨h.ext.trans hx fun b hb => (hd b hb).2, fun g vs hg => ?_, fun b hb => ?_, fun b hb => ?_, fun b hb => hz b (h.zsub b hb), fun r i x hxi => ?_, hn, hsep, hown, hout, hone, fun i => (h.slot i).mono hz hw hr⟩
  · obtain ⟨h1, e, fr, h2⟩ := h.glob g vs hg
    exact ⟨hz g h1, e, fr, (hw g h1).trans h2⟩
  · rcases hz' b hb with h1 | h1
    · exact Nat.lt_of_lt_of_le (h.zlt b h1) hx.size
    · exact h1.1
  · rcases hz' b hb with h1 | h1
    · exact h.zin b h1
    · exact .inr h1.2
  · rcases hroot r i x hxi with ⟨h1, h2, h3⟩ | h1
    · have hlt : i < (R r).length := (List.getElem?_eq_some_iff.1 h1).1
      rw [(hr.len r i hlt).2, h2]
      exact (h.root r i x h1).mono hz hw hr fun b hb => hx.keep b (h.own r i b hb).2.1 (h3 b hb)
    · exact h1
end Go.Den
