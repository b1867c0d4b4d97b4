import Derived.Test.YtihdeagknggeiaaDoorDa
import Derived.Laws.Entries
import Derived.Laws.StructEq
import Derived.Laws.Rows
set_option autoImplicit false
set_option linter.unusedSimpArgs false
set_option linter.unusedVariables false
/- What a call promises on trees; the computed precondition of operations, regions and code. -/
namespace Go.Den

/-! ### What a call promises -/
def OwTup (w : World) (Z : Nat → Prop) : List (Bool × List Cell) → List Value → List Nat → Prop
  | [], [], l => l = []
  | (true, xs) :: ts, v :: vs, l => ∃ us l1 l2, v = .agg us ∧ Ows w Z xs us.toList l1 ∧ OwTup w Z ts vs l2 ∧ l = l1 ++ l2
  | (false, xs) :: ts, v :: vs, l => ∃ x l1 l2, xs = [x] ∧ Ow w Z x v l1 ∧ OwTup w Z ts vs l2 ∧ l = l1 ++ l2
  | _, _, _ => False
def OwSV (w : World) (Z : Nat → Prop) : SV → Value → List Nat → Prop
  | .one x, v, l => Ow w Z x v l
  | .agg xs, v, l => ∃ us, v = .agg us ∧ Ows w Z xs us.toList l
  | .tup ts, v, l => ∃ us : Array Value, v = .tuple us ∧ OwTup w Z ts us.toList l
  | .dead, _, l => l = []
def ShSV (w : World) (Z : Nat → Prop) : SV → Value → Prop
  | .one x, v => Sh w Z x v
  | .agg xs, v => ∃ us, v = .agg us ∧ Shs w Z xs us.toList
  | _, _ => False
def ArgRel (w : World) (Z : Nat → Prop) (a : Arg) (v : Value) (l : List Nat) : Prop := match a.m with
  | .ro => ShSV w Z a.v v ∧ l = []
  | _ => OwSV w Z a.v v l
def ArgsRel (w : World) (Z : Nat → Prop) : List Arg → List Value → List Nat → Prop
  | [], [], l => l = []
  | a :: as, v :: vs, l => ∃ l1 l2, ArgRel w Z a v l1 ∧ ArgsRel w Z as vs l2 ∧ l = l1 ++ l2
  | _, _, _ => False
def OutsRel (w : World) (Z : Nat → Prop) : List Arg → List Value → List SV → List Nat → Prop
  | [], _, os, l => os = [] ∧ l = []
  | a :: as, v :: vs, os, l => match a.m with
    | .mu => ∃ o os' l1 l2, os = o :: os' ∧ OwSV w Z o v l1 ∧ OutsRel w Z as vs os' l2 ∧ l = l1 ++ l2
    | _ => OutsRel w Z as vs os l
  | _ :: _, [], _, _ => False

/-- The function is entered, or answers at once; it returns. -/
def Goes (P : Program) (f : FuncId) (vs : Array Value) (w : World) (R : Value → World → Prop) : Prop := match (callFunc f vs).run P w with
  | .ok (.enter f' vs') w' => Calls P f' vs' w' fun e w'' => match e with
    | .returned v => R v w''
    | _ => False
  | .ok (.value v) w' => R v w'
  | _ => False
theorem Goes.mono {P : Program} {f : FuncId} {vs : Array Value} {w : World} {R R' : Value → World → Prop} (h : Goes P f vs w R) (hr : ∀ v w', R v w' → R' v w') : Goes P f vs w R' := by
  unfold Goes at *
  split at h
  · rename_i f' vs' w' he
    refine h.mono fun e w'' he' => ?_
    cases e with
    | returned v => exact hr _ _ he'
    | _ => exact he'
  · exact hr _ _ h
  · exact h.elim

/-- Called with what reads as `args`, the function gives back what reads as `res`; nothing else that was there is changed. -/
def Ret (P : Program) (G : Nat → Option (List Value)) (f : FuncId) (args : List Arg) (res : Res) : Prop :=
  ∀ (w : World) (Z : Nat → Prop) (vs : List Value) (l : List Nat), Glob G w Z → (∀ b, Z b → b < w.heap.size) → ArgsRel w Z args vs l → l.Nodup →
    (∀ b, b ∈ l → ¬ Z b ∧ b < w.heap.size) →
    Goes P f vs.toArray w fun v w' => ∃ Z' lr lo, Ext (· ∈ l) w w' ∧ (∀ b, Z b → Z' b) ∧
      (∀ b, Z' b → Z b ∨ (b < w'.heap.size ∧ (b ∈ l ∨ w.heap.size ≤ b))) ∧ OwSV w' Z' res.v v lr ∧ OutsRel w' Z' args vs res.outs lo ∧ (lr ++ lo).Nodup ∧
      ∀ b, b ∈ lr ++ lo → ¬ Z' b ∧ b < w'.heap.size ∧ (b ∈ l ∨ w.heap.size ≤ b)

/-! ### Operations -/
def pickN : Nat → List Cell → Option (List Cell)
  | 0, _ => some []
  | _ + 1, [] => none
  | n + 1, x :: xs => (pickN n xs).map (x :: ·)
/-- The bytes of a list of cells. -/
def IsBytes (cs : List Cell) (b : ByteArray) : Prop := cs = b.data.toList.map fun u => .c (.int .u8 u.toNat)

/-- One of two, by a truth value. -/
inductive iteP : Bool → Prop → Prop → Prop
  | t {p q : Prop} (h : p) : iteP true p q
  | f {p q : Prop} (h : q) : iteP false p q
theorem iteP.of_t {p q : Prop} : iteP true p q → p
  | .t h => h
theorem iteP.of_f {p q : Prop} : iteP false p q → q
  | .f h => h
theorem iteP_t (p q : Prop) : iteP true p q ↔ p := ⟨iteP.of_t, .t⟩
theorem iteP_f (p q : Prop) : iteP false p q ↔ q := ⟨iteP.of_f, .f⟩
/-- What was found, or nothing. -/
inductive optP : Option Cell → (Cell → Prop) → Prop → Prop
  | s {x : Cell} {p : Cell → Prop} {q : Prop} (h : p x) : optP (some x) p q
  | n {p : Cell → Prop} {q : Prop} (h : q) : optP none p q
theorem optP_s (x : Cell) (p : Cell → Prop) (q : Prop) : optP (some x) p q ↔ p x := ⟨fun | .s h => h, .s⟩
theorem optP_n (p : Cell → Prop) (q : Prop) : optP none p q ↔ q := ⟨fun | .n h => h, .n⟩
/-- An entry that names nothing. -/
def blank : Ent → Bool
  | ⟨.dead, []⟩ => true
  | ⟨.one (.c _), []⟩ => true
  | _ => false
def nb (e : Ent) : Ent := if blank e then ⟨.dead, []⟩ else e
theorem blank_nb (e : Ent) : blank (nb e) = blank e := by
  unfold nb
  split
  · rename_i h; rw [h]; rfl
  · rfl
theorem nb_blank {x y : Ent} (h : nb x = nb y) : blank x = blank y := by rw [← blank_nb x, ← blank_nb y, h]
theorem nb_or {x y : Ent} (h : nb x = nb y) (p : Ent → Bool) : (blank x || p x) = (blank y || p y) := by
  have hb := nb_blank h
  cases hx : blank x with
  | true => rw [← hb, hx]; rfl
  | false =>
    have hy : blank y = false := by rw [← hb, hx]
    simp only [nb, hx, hy, Bool.false_eq_true, if_false] at h
    rw [hy, h]
/-- An entry's own cells alone. -/
def so (e : Ent) : Ent := ⟨e.s, []⟩
/-- What an operation sees of an entry: all of it (3 i), all but what names nothing (3 i + 1), its own cells alone (3 i + 2). -/
def vw (s : List Ent) (e : Nat) : Option Ent := if e % 3 = 0 then s[e / 3]? else if e % 3 = 1 then (s[e / 3]?).map nb else (s[e / 3]?).map so
theorem vw_even (s : List Ent) (i : Nat) : vw s (3 * i) = s[i]? := by
  unfold vw
  rw [if_pos (by omega), show 3 * i / 3 = i by omega]
theorem vw_odd (s : List Ent) (i : Nat) : vw s (3 * i + 1) = (s[i]?).map nb := by
  unfold vw
  rw [if_neg (by omega), if_pos (by omega), show (3 * i + 1) / 3 = i by omega]
theorem vw_so (s : List Ent) (i : Nat) : vw s (3 * i + 2) = (s[i]?).map so := by
  unfold vw
  rw [if_neg (by omega), if_neg (by omega), show (3 * i + 2) / 3 = i by omega]
theorem vw_cases (e : Nat) : (∃ i, e = 3 * i) ∨ (∃ i, e = 3 * i + 1) ∨ ∃ i, e = 3 * i + 2 := by
  have h : e % 3 = 0 ∨ e % 3 = 1 ∨ e % 3 = 2 := by omega
  rcases h with h | h | h
  · exact .inl ⟨e / 3, by omega⟩
  · exact .inr (.inl ⟨e / 3, by omega⟩)
  · exact .inr (.inr ⟨e / 3, by omega⟩)
theorem vw_set_ne {s : List Ent} {j : Nat} {x : Ent} {e : Nat} (h : e ≠ 3 * j) (h1 : e ≠ 3 * j + 1) (h2 : e ≠ 3 * j + 2) : vw (s.set j x) e = vw s e := by
  rcases vw_cases e with ⟨i, rfl⟩ | ⟨i, rfl⟩ | ⟨i, rfl⟩
  · rw [vw_even, vw_even, List.getElem?_set_ne (by omega)]
  · rw [vw_odd, vw_odd, List.getElem?_set_ne (by omega)]
  · rw [vw_so, vw_so, List.getElem?_set_ne (by omega)]
theorem vw_set_congr {s u : List Ent} (hl : u.length = s.length) {j : Nat} {x : Ent} {e : Nat} (h : vw u e = vw s e) : vw (u.set j x) e = vw (s.set j x) e := by
  by_cases h0 : e = 3 * j
  · subst h0; rw [vw_even, vw_even, List.getElem?_set, List.getElem?_set, hl, if_pos rfl, if_pos rfl]
  · by_cases h1 : e = 3 * j + 1
    · subst h1; rw [vw_odd, vw_odd, List.getElem?_set, List.getElem?_set, hl, if_pos rfl, if_pos rfl]
    · by_cases h2 : e = 3 * j + 2
      · subst h2; rw [vw_so, vw_so, List.getElem?_set, List.getElem?_set, hl, if_pos rfl, if_pos rfl]
      · rw [vw_set_ne h0 h1 h2, vw_set_ne h0 h1 h2, h]
/-- What is noted of a write. -/
def wl (i : Nat) (e0 e : Ent) : List Nat := if blank e0 && blank e then [3 * i, 3 * i + 2] else [3 * i, 3 * i + 1, 3 * i + 2]
/-- The same, where its own cells stay. -/
def wlR (i : Nat) (e0 e : Ent) : List Nat := if blank e0 && blank e then [3 * i] else [3 * i, 3 * i + 1]
def wlRO (i : Nat) (o : Option Ent) (e : Ent) : List Nat := match o with
  | some e0 => wlR i e0 e
  | none => []
theorem wlR_even (i : Nat) (e0 e : Ent) : 3 * i ∈ wlR i e0 e := by unfold wlR; split <;> simp
theorem wlR_in {i : Nat} {e0 e : Ent} {j : Nat} (h : j ∈ wlR i e0 e) : j = 3 * i ∨ j = 3 * i + 1 := by
  unfold wlR at h
  split at h
  · exact .inl (List.mem_singleton.1 h)
  · simpa using h
theorem wlR_odd {i : Nat} {e0 e : Ent} (h : 3 * i + 1 ∉ wlR i e0 e) : nb e0 = nb e := by
  unfold wlR at h
  split at h
  · rename_i hb
    simp only [Bool.and_eq_true] at hb
    simp [nb, hb.1, hb.2]
  · exact absurd (by simp) h
def wlO (i : Nat) (o : Option Ent) (e : Ent) : List Nat := match o with
  | some e0 => wl i e0 e
  | none => []
theorem wl_even (i : Nat) (e0 e : Ent) : 3 * i ∈ wl i e0 e := by unfold wl; split <;> simp
theorem wl_so (i : Nat) (e0 e : Ent) : 3 * i + 2 ∈ wl i e0 e := by unfold wl; split <;> simp
theorem wl_in {i : Nat} {e0 e : Ent} {j : Nat} (h : j ∈ wl i e0 e) : j = 3 * i ∨ j = 3 * i + 1 ∨ j = 3 * i + 2 := by
  unfold wl at h
  split at h
  · simp at h; omega
  · simpa using h
theorem wl_odd {i : Nat} {e0 e : Ent} (h : 3 * i + 1 ∉ wl i e0 e) : nb e0 = nb e := by
  unfold wl at h
  split at h
  · rename_i hb
    simp only [Bool.and_eq_true] at hb
    simp [nb, hb.1, hb.2]
  · exact absurd (by simp) h
section
variable (C : FuncId → List Arg → Res → Prop) {α : Type}
/-- The computed precondition. r, t: the entries that were read, that were written. -/
def wp : AM α → List Ent → List Nat → List Nat → (α → List Ent → List Nat → List Nat → Prop) → Prop
  | .ret a, s, r, t, K => K a s r t
  | .fail, _, _, _, _ => False
  | .get i k, s, r, t, K => match s[i]? with
    | some e => wp (k e) s (3 * i :: r) t K
    | none => False
  | .getS i k, s, r, t, K => match s[i]? with
    | some e => wp (k e.s) s ((3 * i + 2) :: r) t K
    | none => False
  | .putR i rs k, s, r, t, K => match s[i]? with
    | some e0 => wp k (s.set i ⟨e0.s, rs⟩) ((3 * i + 2) :: (3 * i + 1) :: r) ((wlR i e0 ⟨e0.s, rs⟩).reverse ++ t) K
    | none => False
  | .put i e k, s, r, t, K => match s[i]? with
    | some e0 => wp k (s.set i e) ((3 * i + 1) :: r) ((wl i e0 e).reverse ++ t) K
    | none => False
  | .test p k, s, r, t, K => p ∧ wp k s r t K
  | .ite b x y, s, r, t, K => iteP b (wp x s r t K) (wp y s r t K)
  | .pick o k, s, r, t, K => match o with
    | some c => wp (k c) s r t K
    | none => False
  | .picks o n k, s, r, t, K => ∃ cs, pickN n o = some cs ∧ wp (k cs) s r t K
  | .str cs k, s, r, t, K => ∃ b, IsBytes cs b ∧ wp (k b) s r t K
  | .opt o k n, s, r, t, K => ∃ o', o = o' ∧ optP o' (fun c => wp (k c) s r t K) (wp n s r t K)
  | .call f as k, s, r, t, K => ∃ res, C f as res ∧ wp (k res) s r t K
  | .all p k, s, r, t, K => (s.all fun e => blank e || p e) = true ∧ wp k s ((List.range s.length).map (3 * · + 1) ++ r) t K

/-- One way through: r, t: what is read and written on it. -/
def Run : AM α → List Ent → List Nat → List Nat → α → List Ent → Prop
  | .ret a, s, r, t, x, s' => r = [] ∧ t = [] ∧ x = a ∧ s' = s
  | .fail, _, _, _, _, _ => False
  | .get i k, s, r, t, x, s' => ∃ e r', s[i]? = some e ∧ r = 3 * i :: r' ∧ Run (k e) s r' t x s'
  | .getS i k, s, r, t, x, s' => ∃ e r', s[i]? = some e ∧ r = (3 * i + 2) :: r' ∧ Run (k e.s) s r' t x s'
  | .putR i rs k, s, r, t, x, s' => ∃ e0 r' t', s[i]? = some e0 ∧ r = (3 * i + 1) :: (3 * i + 2) :: r' ∧ t = wlR i e0 ⟨e0.s, rs⟩ ++ t' ∧ Run k (s.set i ⟨e0.s, rs⟩) r' t' x s'
  | .put i e k, s, r, t, x, s' => ∃ e0 r' t', s[i]? = some e0 ∧ r = (3 * i + 1) :: r' ∧ t = wl i e0 e ++ t' ∧ Run k (s.set i e) r' t' x s'
  | .test p k, s, r, t, x, s' => p ∧ Run k s r t x s'
  | .ite b m n, s, r, t, x, s' => match b with
    | true => Run m s r t x s'
    | false => Run n s r t x s'
  | .pick o k, s, r, t, x, s' => ∃ c, o = some c ∧ Run (k c) s r t x s'
  | .picks o n k, s, r, t, x, s' => ∃ cs, pickN n o = some cs ∧ Run (k cs) s r t x s'
  | .str cs k, s, r, t, x, s' => ∃ b, IsBytes cs b ∧ Run (k b) s r t x s'
  | .opt o k n, s, r, t, x, s' => match o with
    | some c => Run (k c) s r t x s'
    | none => Run n s r t x s'
  | .call f as k, s, r, t, x, s' => ∃ res, C f as res ∧ Run (k res) s r t x s'
  | .all p k, s, r, t, x, s' => ∃ r', (s.all fun e => blank e || p e) = true ∧ r = ((List.range s.length).map (3 * · + 1)).reverse ++ r' ∧ Run k s r' t x s'

theorem wp_run : ∀ (m : AM α) (s : List Ent) (r t : List Nat) (K : α → List Ent → List Nat → List Nat → Prop), wp C m s r t K →
    ∃ r' t' x s', Run C m s r' t' x s' ∧ K x s' (r'.reverse ++ r) (t'.reverse ++ t)
  | .ret a, s, r, t, K, h => ⟨[], [], a, s, ⟨rfl, rfl, rfl, rfl⟩, h⟩
  | .get i k, s, r, t, K, h => by
    simp only [wp] at h
    split at h
    · rename_i e he
      obtain ⟨r', t', x, s', h1, h2⟩ := wp_run (k e) s (3 * i :: r) t K h
      exact ⟨3 * i :: r', t', x, s', ⟨e, r', he, rfl, h1⟩, by simpa using h2⟩
    · exact h.elim
  | .getS i k, s, r, t, K, h => by
    simp only [wp] at h
    split at h
    · rename_i e he
      obtain ⟨r', t', x, s', h1, h2⟩ := wp_run (k e.s) s ((3 * i + 2) :: r) t K h
      exact ⟨(3 * i + 2) :: r', t', x, s', ⟨e, r', he, rfl, h1⟩, by simpa using h2⟩
    · exact h.elim
  | .putR i rs k, s, r, t, K, h => by
    simp only [wp] at h
    split at h
    · rename_i e' he
      obtain ⟨r', t', x, s', h1, h2⟩ := wp_run k (s.set i ⟨e'.s, rs⟩) ((3 * i + 2) :: (3 * i + 1) :: r) ((wlR i e' ⟨e'.s, rs⟩).reverse ++ t) K h
      exact ⟨(3 * i + 1) :: (3 * i + 2) :: r', wlR i e' ⟨e'.s, rs⟩ ++ t', x, s', ⟨e', r', t', he, rfl, rfl, h1⟩, by simpa using h2⟩
    · exact h.elim
  | .put i e k, s, r, t, K, h => by
    simp only [wp] at h
    split at h
    · rename_i e' he
      obtain ⟨r', t', x, s', h1, h2⟩ := wp_run k (s.set i e) ((3 * i + 1) :: r) ((wl i e' e).reverse ++ t) K h
      exact ⟨(3 * i + 1) :: r', wl i e' e ++ t', x, s', ⟨e', r', t', he, rfl, rfl, h1⟩, by simpa using h2⟩
    · exact h.elim
  | .test p k, s, r, t, K, h => by
    obtain ⟨hp, h⟩ := h
    obtain ⟨r', t', x, s', h1, h2⟩ := wp_run k s r t K h
    exact ⟨r', t', x, s', ⟨hp, h1⟩, h2⟩
  | .ite true m n, s, r, t, K, h => wp_run m s r t K (iteP.of_t h)
  | .ite false m n, s, r, t, K, h => wp_run n s r t K (iteP.of_f h)
  | .pick (some c) k, s, r, t, K, h => by
    obtain ⟨r', t', x, s', h1, h2⟩ := wp_run (k c) s r t K h
    exact ⟨r', t', x, s', ⟨c, rfl, h1⟩, h2⟩
  | .picks o n k, s, r, t, K, h => by
    obtain ⟨cs, hc, h⟩ := h
    obtain ⟨r', t', x, s', h1, h2⟩ := wp_run (k cs) s r t K h
    exact ⟨r', t', x, s', ⟨cs, hc, h1⟩, h2⟩
  | .str cs k, s, r, t, K, h => by
    obtain ⟨b, hb, h⟩ := h
    obtain ⟨r', t', x, s', h1, h2⟩ := wp_run (k b) s r t K h
    exact ⟨r', t', x, s', ⟨b, hb, h1⟩, h2⟩
  | .opt (some c) k n, s, r, t, K, h => by
    obtain ⟨_, rfl, h⟩ := h
    rw [optP_s] at h
    obtain ⟨r', t', x, s', h1, h2⟩ := wp_run (k c) s r t K h
    exact ⟨r', t', x, s', h1, h2⟩
  | .opt none k n, s, r, t, K, h => by
    obtain ⟨_, rfl, h⟩ := h
    rw [optP_n] at h
    obtain ⟨r', t', x, s', h1, h2⟩ := wp_run n s r t K h
    exact ⟨r', t', x, s', h1, h2⟩
  | .call f as k, s, r, t, K, h => by
    obtain ⟨res, hc, h⟩ := h
    obtain ⟨r', t', x, s', h1, h2⟩ := wp_run (k res) s r t K h
    exact ⟨r', t', x, s', ⟨res, hc, h1⟩, h2⟩
  | .all p k, s, r, t, K, h => by
    obtain ⟨hp, h⟩ := h
    obtain ⟨r', t', x, s', h1, h2⟩ := wp_run k s ((List.range s.length).map (3 * · + 1) ++ r) t K h
    exact ⟨((List.range s.length).map (3 * · + 1)).reverse ++ r', t', x, s', ⟨r', hp, rfl, h1⟩, by rw [List.reverse_append, List.reverse_reverse, List.append_assoc]; exact h2⟩

theorem run_length : ∀ {m : AM α} {s : List Ent} {r t : List Nat} {x : α} {s' : List Ent}, Run C m s r t x s' → s'.length = s.length
  | .ret a, _, _, _, _, _, ⟨_, _, _, h⟩ => by rw [h]
  | .get i k, s, r, t, x, s', ⟨e, r', _, _, h⟩ => run_length h
  | .put i e k, s, r, t, x, s', ⟨_, _, t', _, _, _, h⟩ => by rw [run_length h]; simp
  | .getS i k, s, r, t, x, s', ⟨e, r', _, _, h⟩ => run_length h
  | .putR i e k, s, r, t, x, s', ⟨_, _, t', _, _, _, h⟩ => by rw [run_length h]; simp
  | .test p k, s, r, t, x, s', ⟨_, h⟩ => run_length h
  | .ite true m n, s, r, t, x, s', h => run_length (m := m) h
  | .ite false m n, s, r, t, x, s', h => run_length (m := n) h
  | .pick o k, s, r, t, x, s', ⟨_, _, h⟩ => run_length h
  | .picks o n k, s, r, t, x, s', ⟨_, _, h⟩ => run_length h
  | .str cs k, s, r, t, x, s', ⟨_, _, h⟩ => run_length h
  | .opt (some c) k n, s, r, t, x, s', h => run_length (m := k c) h
  | .opt none k n, s, r, t, x, s', h => run_length (m := n) h
  | .call f as k, s, r, t, x, s', ⟨_, _, h⟩ => run_length h
  | .all p k, s, r, t, x, s', ⟨_, _, _, h⟩ => run_length h

/-- What is not written stays. -/
theorem run_frame : ∀ {m : AM α} {s : List Ent} {r t : List Nat} {x : α} {s' : List Ent}, Run C m s r t x s' → ∀ i, i ∉ t → vw s' i = vw s i
  | .ret a, _, _, _, _, _, ⟨_, _, _, h⟩, i, _ => by rw [h]
  | .get _ k, s, r, t, x, s', ⟨e, r', _, _, h⟩, i, hi => run_frame h i hi
  | .put j e k, s, r, t, x, s', ⟨e0, r', t', he0, _, ht, h⟩, i, hi => by
    subst ht
    rw [run_frame h i (fun h' => hi (List.mem_append.2 (.inr h')))]
    have hw : i ∉ wl j e0 e := fun h' => hi (List.mem_append.2 (.inl h'))
    by_cases h0 : i = 3 * j
    · subst h0; exact absurd (wl_even j e0 e) hw
    · by_cases h1 : i = 3 * j + 1
      · subst h1
        have hlt := (List.getElem?_eq_some_iff.1 he0).1
        rw [vw_odd, vw_odd, he0, List.getElem?_set, if_pos rfl, if_pos hlt, Option.map_some, Option.map_some, wl_odd hw]
      · by_cases h2 : i = 3 * j + 2
        · subst h2; exact absurd (wl_so j e0 e) hw
        · exact vw_set_ne h0 h1 h2
  | .getS _ k, s, r, t, x, s', ⟨e, r', _, _, h⟩, i, hi => run_frame h i hi
  | .putR j rs k, s, r, t, x, s', ⟨e0, r', t', he0, _, ht, h⟩, i, hi => by
    subst ht
    rw [run_frame h i (fun h' => hi (List.mem_append.2 (.inr h')))]
    have hw : i ∉ wlR j e0 ⟨e0.s, rs⟩ := fun h' => hi (List.mem_append.2 (.inl h'))
    have hlt := (List.getElem?_eq_some_iff.1 he0).1
    by_cases h0 : i = 3 * j
    · subst h0; exact absurd (wlR_even j e0 _) hw
    · by_cases h1 : i = 3 * j + 1
      · subst h1
        rw [vw_odd, vw_odd, he0, List.getElem?_set, if_pos rfl, if_pos hlt, Option.map_some, Option.map_some, wlR_odd hw]
      · by_cases h2 : i = 3 * j + 2
        · subst h2
          rw [vw_so, vw_so, he0, List.getElem?_set, if_pos rfl, if_pos hlt, Option.map_some, Option.map_some]
          rfl
        · exact vw_set_ne h0 h1 h2
  | .test p k, s, r, t, x, s', ⟨_, h⟩, i, hi => run_frame h i hi
  | .ite true m n, s, r, t, x, s', h, i, hi => run_frame (m := m) h i hi
  | .ite false m n, s, r, t, x, s', h, i, hi => run_frame (m := n) h i hi
  | .pick o k, s, r, t, x, s', ⟨_, _, h⟩, i, hi => run_frame h i hi
  | .picks o n k, s, r, t, x, s', ⟨_, _, h⟩, i, hi => run_frame h i hi
  | .str cs k, s, r, t, x, s', ⟨_, _, h⟩, i, hi => run_frame h i hi
  | .opt (some c) k n, s, r, t, x, s', h, i, hi => run_frame (m := k c) h i hi
  | .opt none k n, s, r, t, x, s', h, i, hi => run_frame (m := n) h i hi
  | .call f as k, s, r, t, x, s', ⟨_, _, h⟩, i, hi => run_frame h i hi
  | .all p k, s, r, t, x, s', ⟨_, _, _, h⟩, i, hi => run_frame h i hi

/-- A way through depends on what it reads alone. -/
theorem run_local : ∀ {m : AM α} {s : List Ent} {r t : List Nat} {x : α} {s' : List Ent}, Run C m s r t x s' → ∀ (u : List Ent), u.length = s.length →
    (∀ i, i ∈ r → vw u i = vw s i) → ∃ u', Run C m u r t x u' ∧ ∀ i, i ∈ t → vw u' i = vw s' i
  | .ret a, s, _, _, _, _, ⟨hr, ht, hx, h⟩, u, _, _ => ⟨u, ⟨hr, ht, hx, rfl⟩, by simp [ht]⟩
  | .get i k, s, r, t, x, s', ⟨e, r', he, hr, h⟩, u, hl, hu => by
    subst hr
    obtain ⟨u', h1, h2⟩ := run_local h u hl fun j hj => hu j (by simp [hj])
    exact ⟨u', ⟨e, r', by have := hu (3 * i) (by simp); rw [vw_even, vw_even] at this; rw [this]; exact he, rfl, h1⟩, h2⟩
  | .getS i k, s, r, t, x, s', ⟨e, r', he, hr, h⟩, u, hl, hu => by
    subst hr
    have hi := (List.getElem?_eq_some_iff.1 he).1
    have hui : u[i]? = some (u[i]'(by omega)) := List.getElem?_eq_getElem (by omega)
    have ho := hu (3 * i + 2) (by simp)
    rw [vw_so, vw_so, he, hui, Option.map_some, Option.map_some] at ho
    have hs : (u[i]'(by omega)).s = e.s := (Ent.mk.inj (Option.some.inj ho)).1
    obtain ⟨u', h1, h2⟩ := run_local h u hl fun j hj => hu j (by simp [hj])
    exact ⟨u', ⟨_, r', hui, rfl, by rw [hs]; exact h1⟩, h2⟩
  | .putR i rs k, s, r, t, x, s', ⟨e0, r', t', he0, hr, ht, h⟩, u, hl, hu => by
    subst ht
    subst hr
    have hi := (List.getElem?_eq_some_iff.1 he0).1
    have hui : u[i]? = some (u[i]'(by omega)) := List.getElem?_eq_getElem (by omega)
    have ho := hu (3 * i + 1) (by simp)
    have ho2 := hu (3 * i + 2) (by simp)
    rw [vw_odd, vw_odd, he0, hui, Option.map_some, Option.map_some] at ho
    rw [vw_so, vw_so, he0, hui, Option.map_some, Option.map_some] at ho2
    have hnb := Option.some.inj ho
    have hs : (u[i]'(by omega)).s = e0.s := (Ent.mk.inj (Option.some.inj ho2)).1
    have hwl : wlR i (u[i]'(by omega)) ⟨(u[i]'(by omega)).s, rs⟩ = wlR i e0 ⟨e0.s, rs⟩ := by unfold wlR; rw [nb_blank hnb, hs]
    obtain ⟨u', h1, h2⟩ := run_local h (u.set i ⟨e0.s, rs⟩) (by simp [hl]) fun j hj => vw_set_congr hl (hu j (by simp [hj]))
    refine ⟨u', ⟨_, r', t', hui, rfl, by rw [hwl], by rw [hs]; exact h1⟩, fun j hj => ?_⟩
    by_cases hjt : j ∈ t'
    · exact h2 j hjt
    · have hji : j ∈ wlR i e0 ⟨e0.s, rs⟩ := (List.mem_append.1 hj).resolve_right hjt
      rw [run_frame C h1 j hjt, run_frame C h j hjt]
      rcases wlR_in hji with rfl | rfl
      · rw [vw_even, vw_even, List.getElem?_set, List.getElem?_set, hl, if_pos rfl, if_pos rfl]
      · rw [vw_odd, vw_odd, List.getElem?_set, List.getElem?_set, hl, if_pos rfl, if_pos rfl]
  | .put i e k, s, r, t, x, s', ⟨e0, r', t', he0, hr, ht, h⟩, u, hl, hu => by
    subst ht
    subst hr
    have hi := (List.getElem?_eq_some_iff.1 he0).1
    have ho := hu (3 * i + 1) (by simp)
    rw [vw_odd, vw_odd, he0, Option.map_some] at ho
    have hui : u[i]? = some (u[i]'(by omega)) := List.getElem?_eq_getElem (by omega)
    rw [hui, Option.map_some] at ho
    have hnb := Option.some.inj ho
    have hwl : wl i (u[i]'(by omega)) e = wl i e0 e := by unfold wl; rw [nb_blank hnb]
    obtain ⟨u', h1, h2⟩ := run_local h (u.set i e) (by simp [hl]) fun j hj => vw_set_congr hl (hu j (by simp [hj]))
    refine ⟨u', ⟨_, r', t', hui, rfl, by rw [hwl], h1⟩, fun j hj => ?_⟩
    by_cases hjt : j ∈ t'
    · exact h2 j hjt
    · have hji : j ∈ wl i e0 e := (List.mem_append.1 hj).resolve_right hjt
      rw [run_frame C h1 j hjt, run_frame C h j hjt]
      rcases wl_in hji with rfl | rfl | rfl
      · rw [vw_even, vw_even, List.getElem?_set, List.getElem?_set, hl, if_pos rfl, if_pos rfl]
      · rw [vw_odd, vw_odd, List.getElem?_set, List.getElem?_set, hl, if_pos rfl, if_pos rfl]
      · rw [vw_so, vw_so, List.getElem?_set, List.getElem?_set, hl, if_pos rfl, if_pos rfl]
  | .test p k, s, r, t, x, s', ⟨hp, h⟩, u, hl, hu => by
    obtain ⟨u', h1, h2⟩ := run_local h u hl hu
    exact ⟨u', ⟨hp, h1⟩, h2⟩
  | .ite true m n, s, r, t, x, s', h, u, hl, hu => run_local (m := m) h u hl hu
  | .ite false m n, s, r, t, x, s', h, u, hl, hu => run_local (m := n) h u hl hu
  | .pick o k, s, r, t, x, s', ⟨c, hc, h⟩, u, hl, hu => by
    obtain ⟨u', h1, h2⟩ := run_local h u hl hu
    exact ⟨u', ⟨c, hc, h1⟩, h2⟩
  | .picks o n k, s, r, t, x, s', ⟨c, hc, h⟩, u, hl, hu => by
    obtain ⟨u', h1, h2⟩ := run_local h u hl hu
    exact ⟨u', ⟨c, hc, h1⟩, h2⟩
  | .str cs k, s, r, t, x, s', ⟨c, hc, h⟩, u, hl, hu => by
    obtain ⟨u', h1, h2⟩ := run_local h u hl hu
    exact ⟨u', ⟨c, hc, h1⟩, h2⟩
  | .opt (some c) k n, s, r, t, x, s', h, u, hl, hu => run_local (m := k c) h u hl hu
  | .opt none k n, s, r, t, x, s', h, u, hl, hu => run_local (m := n) h u hl hu
  | .call f as k, s, r, t, x, s', ⟨c, hc, h⟩, u, hl, hu => by
    obtain ⟨u', h1, h2⟩ := run_local h u hl hu
    exact ⟨u', ⟨c, hc, h1⟩, h2⟩
  | .all p k, s, r, t, x, s', ⟨r', hp, hr, h⟩, u, hl, hu => by
    subst hr
    obtain ⟨u', h1, h2⟩ := run_local h u hl fun j hj => hu j (List.mem_append.2 (.inr hj))
    refine ⟨u', ⟨r', ?_, by rw [hl], h1⟩, h2⟩
    rw [List.all_eq_true] at hp ⊢
    intro x hx
    obtain ⟨i, hi, rfl⟩ := List.mem_iff_getElem.1 hx
    have ho := hu (3 * i + 1) (List.mem_append.2 (.inl (List.mem_reverse.2 (List.mem_map.2 ⟨i, List.mem_range.2 (by omega), rfl⟩))))
    rw [vw_odd, vw_odd, List.getElem?_eq_getElem hi, List.getElem?_eq_getElem (show i < s.length by omega), Option.map_some, Option.map_some] at ho
    rw [nb_or (Option.some.inj ho) p]
    exact hp _ (List.getElem_mem _)
end

/-! ### Regions and code -/
def mask (l : List Nat) : Nat := l.foldl (fun m i => m ||| 2 ^ i) 0
/-- For each operation: those that stand before it in every order, as bits. -/
def bef : List Oper → List Nat → List Nat
  | [], acc => acc
  | o :: os, acc => bef os (acc ++ [o.after.toList.foldl (fun s e => if Region.binds .any e then s ||| 2 ^ e.on ||| acc.getD e.on 0 else s) 0])
def wfE : List Oper → Nat → Bool
  | [], _ => true
  | o :: os, i => o.after.toList.all (fun e => !Region.binds .any e || decide (e.on < i)) && wfE os (i + 1)
def meets (a b : Nat × Nat) : Bool := (a.2 &&& (b.1 ||| b.2) != 0) || (a.1 &&& b.2 != 0)
def clash (x : Nat × Nat) (b : Nat) : Nat → List (Nat × Nat) → Bool
  | _, [] => true
  | i, y :: ys => (!meets y x || b.testBit i) && clash x b (i + 1) ys
def apart : List (Nat × Nat) → List (Nat × Nat) → List Nat → Bool
  | done, x :: xs, b :: bs => clash x b 0 done && apart (done ++ [x]) xs bs
  | _, [], _ => true
  | _, _ :: _, [] => false
/-- No two operations whose order is open meet in an entry. -/
def indep (ops : Array Oper) (logs : List (List Nat × List Nat)) : Bool :=
  wfE ops.toList 0 && apart [] (logs.map fun l => (mask l.1, mask l.2)) (bef ops.toList [])

inductive DExit where
  | normal
  | exit (id : Nat)
  | ret
  deriving DecidableEq

/-- The names of a loop's first region. -/
def firstId : Code → Nat
  | .region id _ _ => id
  | .seq a _ => firstId a
  | .block _ a => firstId a
  | .loop a => firstId a
  | _ => 0

section
variable (E : Env) (C : FuncId → List Arg → Res → Prop)
def wpOps (ops : Array Oper) : List Oper → List Ent → List (List Nat × List Nat) → (List Ent → List (List Nat × List Nat) → Prop) → Prop
  | [], s, l, K => K s l
  | o :: os, s, l, K => wp C (opAM E ops o) s [] [] fun _ s' r t => ∃ s2, s' = s2 ∧ wpOps ops os s2 (l ++ [(r, t)]) K

/-- What is live at a loop's head, each slot's tree taken apart from the rest. How: 0: one's own; 1: to be read alone; k + 2: another name of slot k. -/
def liveAM : List (Nat × Nat) → (List SV → AM (List SV)) → AM (List SV)
  | [], K => K []
  | (x, 0) :: xs, K => .get x fun e => match e.s with
    | .dead | .tup _ => .fail
    | v => pkL 12 (svCells v) fun ys => liveAM xs fun vs => K (svLike v ys :: vs)
  | (x, 1) :: xs, K => .get x fun e => match e.s with
    | .dead | .tup _ => .fail
    | v => rdL 12 (svCells v) fun ys => liveAM xs fun vs => K (svLike v (ys.map .shd) :: vs)
  | (x, k + 2) :: xs, K => .get x fun e => .get k fun e' => match e.s, e'.s with
    | .one (.hd r i none), .one (.hd r' i' none) => if r = r' ∧ i = i' then liveAM xs fun vs => K (.dead :: vs) else .fail
    | _, _ => .fail
/-- First what is one's own, then what is read, then other names; each slot once. -/
def liveOk (xs : List (Nat × Nat)) : Bool := ord xs && once (xs.map (·.1))
where
  ord : List (Nat × Nat) → Bool
    | [] => true
    | (_, 0) :: xs => ord xs
    | (_, _ + 1) :: xs => xs.all fun p => p.2 != 0
  once : List Nat → Bool
    | [] => true
    | x :: xs => !xs.contains x && once xs
def restoreG : List (Nat × Nat) → List SV → List Ent → List Ent
  | (x, k) :: xs, v :: vs, s => match k with
    | k + 2 => restoreG xs vs (s.set x ⟨(s[k]?.getD default).s, []⟩)
    | _ => restoreG xs vs (s.set x ⟨(openSV x 0 v).1, (openSV x 0 v).2⟩)
  | _, _, s => s
/-- The state at a loop's head out of what was live. -/
def restore (n : Nat) (live : List (Nat × Nat)) (vs : List SV) : List Ent := restoreG live vs (List.replicate n default)

/-- Nil as an empty slice with elements of sz cells. -/
def nil1 (sz : Nat) : Cell → Cell
  | .c (.slice none 0 0) => .sl false sz 0 []
  | x => x
def nilC (sz : Nat) : Cell → Cell
  | .c (.slice none 0 0) => .sl false sz 0 []
  | .ptr cs => .ptr (cs.map (nil1 sz))
  | .shd x => .shd (nil1 sz x)
  | x => x
def nilSV (sz : Nat) : SV → SV
  | .one x => .one (nilC sz x)
  | .agg xs => .agg (xs.map (nilC sz))
  | v => v
def cvtL (ns : List (Nat × Nat)) : List (Nat × Nat) → List SV → List SV
  | (x, k) :: live, v :: vs => (match k, ns.lookup x with
    | 0, some sz => nilSV sz v
    | 1, some sz => nilSV sz v
    | _, _ => v) :: cvtL ns live vs
  | _, vs => vs
def cvt (ns live : List (Nat × Nat)) (vs : List SV) : List SV := match ns with
  | [] => vs
  | ns => cvtL ns live vs
/-- The computed precondition of code. -/
def den : Code → List Ent → (DExit → List Ent → Prop) → Prop
  | .skip, s, K => K .normal s
  | .region _ ops draw, s, K => wpOps E C ops ops.toList s [] fun s' l => match draw with
    | true => indep ops l = true ∧ K .normal s'
    | false => K .normal s'
  | .seq a b, s, K => den a s fun e s' => match e with
    | .normal => den b s' K
    | e => K e s'
  | .cond c x y, s, K => match c with
    | .tmp t => if t < E.n then (match s[t]? with
      | some ⟨.one (.c (.bool b)), _⟩ => iteP b (den x s K) (den y s K)
      | _ => False) else False
    | .const (.bool b) => iteP b (den x s K) (den y s K)
    | _ => False
  | .block id b, s, K => den b s fun e s' => match e with
    | .exit id' => if id' = id then K .normal s' else K (.exit id') s'
    | e => K e s'
  | .loop b, s, K => ∃ J : Nat → List SV → Prop,
      liveOk (E.live (firstId b)) = true ∧ wp C (liveAM (E.live (firstId b)) .ret) s [] [] (fun vs _ _ _ => ∃ k, J k (cvt (E.nils (firstId b)) (E.live (firstId b)) vs)) ∧
      ∀ k vs, J k vs → ∃ s0, restore s.length (E.live (firstId b)) vs = s0 ∧ den b s0 fun e s' => match e with
        | .normal => wp C (liveAM (E.live (firstId b)) .ret) s' [] [] fun vs' _ _ _ => ∃ k', k' < k ∧ J k' (cvt (E.nils (firstId b)) (E.live (firstId b)) vs')
        | e => K e s'
  | .exit id, s, K => K (.exit id) s
  | .ret, s, K => K .ret s
  | _, _, _ => False
end
end Go.Den

/- The machine's steps follow the machine on trees: slots, names, the operations that write no memory. -/
namespace Go.Den

def sOf (s : List Ent) (i : Nat) : SV := (s[i]?.getD default).s
def rOf (s : List Ent) (i : Nat) : List Cell := (s[i]?.getD default).r
def tvOf (a : Act) (gv : List Value) (i : Nat) : Value := if i < a.tmps.size then a.tmps.getD i undef else gv.getD (i - a.tmps.size) undef

structure At (E : Env) (w0 : World) (B Z0 : Nat → Prop) (gv : List Value) (s : List Ent) (a : Act) (w : World) (Z : Nat → Prop) (RV : Nat → Nat → Value) (L : Nat → Nat → List Nat) : Prop where
  n : a.tmps.size = E.n
  len : s.length = E.n + gv.length
  dfr : a.defers = []
  inv : Inv E.G w0 B Z0 (sOf s) (rOf s) (tvOf a gv) w Z RV L

section
variable (C : FuncId → List Arg → Res → Prop) {α : Type} (s : List Ent) (r t : List Nat) (K : α → List Ent → List Nat → List Nat → Prop)
theorem wp_get (i : Nat) (k : Ent → AM α) : wp C (.get i k) s r t K ↔ ∃ e, s[i]? = some e ∧ wp C (k e) s (3 * i :: r) t K := by
  simp only [wp]; cases s[i]? <;> simp
theorem wp_getS (i : Nat) (k : SV → AM α) : wp C (.getS i k) s r t K ↔ ∃ e, s[i]? = some e ∧ wp C (k e.s) s ((3 * i + 2) :: r) t K := by
  simp only [wp]; cases s[i]? <;> simp
theorem wp_putR (i : Nat) (rs : List Cell) (k : AM α) : wp C (.putR i rs k) s r t K ↔ (∃ e', s[i]? = some e') ∧ wp C k (s.set i ⟨(s[i]?.getD default).s, rs⟩) ((3 * i + 2) :: (3 * i + 1) :: r) ((wlRO i s[i]? ⟨(s[i]?.getD default).s, rs⟩).reverse ++ t) K := by
  simp only [wp]; cases s[i]? <;> simp [wlRO]
theorem wp_put (i : Nat) (e : Ent) (k : AM α) : wp C (.put i e k) s r t K ↔ (∃ e', s[i]? = some e') ∧ wp C k (s.set i e) ((3 * i + 1) :: r) ((wlO i s[i]? e).reverse ++ t) K := by
  simp only [wp]; cases s[i]? <;> simp [wlO]
theorem wp_test (p : Prop) (k : AM α) : wp C (.test p k) s r t K ↔ p ∧ wp C k s r t K := Iff.rfl
theorem wp_ite (b : Bool) (x y : AM α) : wp C (.ite b x y) s r t K ↔ (b = true → wp C x s r t K) ∧ (b = false → wp C y s r t K) := by
  cases b <;> simp [wp, iteP_t, iteP_f]
theorem wp_pick (o : Option Cell) (k : Cell → AM α) : wp C (.pick o k) s r t K ↔ ∃ c, o = some c ∧ wp C (k c) s r t K := by
  cases o <;> simp [wp]
theorem wp_pickK (j : Option Nat) (o : Option Cell) (k : Cell → AM α) : wp C (pickK j o k) s r t K ↔ ∃ c, o = some c ∧ wp C (k c) s r t K := by
  cases j <;> cases o <;> simp [pickK, wp, optP_s, optP_n]
theorem wp_picks (o : List Cell) (n : Nat) (k : List Cell → AM α) : wp C (.picks o n k) s r t K ↔ ∃ cs, pickN n o = some cs ∧ wp C (k cs) s r t K := by
  rfl
theorem noE_blank (q : Nat → Nat → Bool) (e : Ent) (h : blank e = true) : noE q e = true := by
  unfold blank at h
  split at h
  · rfl
  · rfl
  · cases h
theorem wp_all (q : Nat → Nat → Bool) (k : AM α) : wp C (.all (noE q) k) s r t K ↔ s.all (noE q) = true ∧ wp C k s ((List.range s.length).map (3 * · + 1) ++ r) t K := by
  have : (s.all fun e => blank e || noE q e) = s.all (noE q) := by
    congr 1
    funext e
    cases h : blank e with
    | true => rw [noE_blank q e h]; rfl
    | false => rfl
  simp only [wp, this]
theorem wp_opt (o : Option Cell) (k : Cell → AM α) (n : AM α) : wp C (.opt o k n) s r t K ↔ (∀ c, o = some c → wp C (k c) s r t K) ∧ (o = none → wp C n s r t K) := by
  cases o <;> simp [wp, optP_s, optP_n]
end

/-- What is told of types is so. -/
def TabOK (P : Program) (T : TypeId → Option Ty) : Prop :=
  ∀ t d, T t = some d → P.underlying t = some d.desc ∧ ∃ i, P.info? t = some i ∧ i.size = d.size ∧ i.bytes = d.bytes ∧ i.zero = some d.zero ∧ d.zero.cells.size = d.size

theorem sOf_set {s : List Ent} {i : Nat} {e : Ent} (h : i < s.length) (j : Nat) : sOf (s.set i e) j = if j = i then e.s else sOf s j := by
  unfold sOf
  by_cases hij : j = i
  · subst hij; simp [h]
  · rw [List.getElem?_set_ne (fun e => hij e.symm)]; simp [hij]
theorem rOf_set {s : List Ent} {i : Nat} {e : Ent} (h : i < s.length) (j : Nat) : rOf (s.set i e) j = if j = i then e.r else rOf s j := by
  unfold rOf
  by_cases hij : j = i
  · subst hij; simp [h]
  · rw [List.getElem?_set_ne (fun e => hij e.symm)]; simp [hij]
theorem tvOf_put {a : Act} {gv : List Value} {d : Nat} {v : Value} (h : d < a.tmps.size) (j : Nat) : tvOf (a.put (some d) v) gv j = if j = d then v else tvOf a gv j := by
  unfold tvOf Act.put
  by_cases hj : j = d
  · subst hj; simp [h]
  · simp [hj, Array.getElem?_setIfInBounds_ne (fun e => hj e.symm)]
theorem put_size (a : Act) (d : Option Tmp) (v : Value) : (a.put d v).tmps.size = a.tmps.size := by cases d <;> simp [Act.put]
theorem put_dfr (a : Act) (d : Option Tmp) (v : Value) : (a.put d v).defers = a.defers := by cases d <;> simp [Act.put]

theorem wp_value {P : Program} {o : Oper} {a : Act} {w w' : World} {v : Value} {next : Act → World → Prop} {Q : Exit → Act → World → Prop}
    (hr : (execOp a.eval o).run P w = .ok (.value v) w') (h : next (a.put o.dst v) w') : o.wp P a w next Q := by
  unfold Oper.wp; rw [hr]; exact h
theorem wp_skip' {P : Program} {o : Oper} {a : Act} {w w' : World} {next : Act → World → Prop} {Q : Exit → Act → World → Prop}
    (hr : (execOp a.eval o).run P w = .ok .skip w') (h : next (a.put o.dst undef) w') : o.wp P a w next Q := by
  unfold Oper.wp; rw [hr]; exact h

section
variable {P : Program} {E : Env} {w0 : World} {B Z0 : Nat → Prop} {gv : List Value} {s : List Ent} {a : Act} {w : World} {Z : Nat → Prop} {RV : Nat → Nat → Value}
  {L : Nat → Nat → List Nat} {C : FuncId → List Arg → Res → Prop} {α : Type} {r t : List Nat} {K : α → List Ent → List Nat → List Nat → Prop}

/-- A slot is written. -/
theorem At.put (h : At E w0 B Z0 gv s a w Z RV L) {d : Nat} {e : Ent} (he : s[d]? = some e) (hd : d < E.n) {v : SV} {V : Value} (hv : Slot w Z (rOf s) RV v V) :
    At E w0 B Z0 gv (s.set d ⟨v, e.r⟩) (a.put (some d) V) w Z RV L := by
  have hl : d < s.length := (List.getElem?_eq_some_iff.1 he).1
  have hR : rOf (s.set d ⟨v, e.r⟩) = rOf s := by
    funext j
    rw [rOf_set hl]
    split
    · rename_i hj; subst hj; simp [rOf, he]
    · rfl
  refine ⟨by rw [put_size]; exact h.n, by simp [h.len], by rw [put_dfr]; exact h.dfr, ?_⟩
  rw [hR]
  refine h.inv.put fun i => ?_
  rw [sOf_set hl, tvOf_put (by rw [h.n]; exact hd)]
  by_cases hi : i = d
  · rw [if_pos hi, if_pos hi]; exact .inr hv
  · rw [if_neg hi, if_neg hi]; exact .inl ⟨rfl, rfl⟩

theorem setD_sound {K : Unit → List Ent → List Nat → List Nat → Prop} {d : Option Tmp} {v : SV} (hw : wp C (setD d v) s r t K) (h : At E w0 B Z0 gv s a w Z RV L)
    (hd : d.getD 0 < E.n) {V : Value} (hv : Slot w Z (rOf s) RV v V) : ∃ s' r' t', K () s' r' t' ∧ At E w0 B Z0 gv s' (a.put d V) w Z RV L := by
  cases d with
  | none => exact ⟨s, r, t, hw, h⟩
  | some d =>
    simp only [setD, wp_get, wp_put] at hw
    obtain ⟨e, he, _, hw⟩ := hw
    exact ⟨_, _, _, hw, h.put he hd hv⟩

theorem stup_const {R : Nat → List Cell} : ∀ (l : List Value), STup w Z R RV (l.map fun v => match v with | .agg cs => (true, cs.toList.map .c) | v => (false, [.c v])) l
  | [] => trivial
  | v :: l => by
    have ih := stup_const (R := R) l
    cases v <;> first
      | exact ⟨⟨_, rfl, .c _⟩, ih⟩
      | exact ⟨⟨_, rfl, SCells.of_c _⟩, ih⟩
theorem slot_const (v : Value) : Slot w Z (rOf s) RV (svOf v) v := by
  cases v with
  | agg cs => exact ⟨_, rfl, SCells.of_c _⟩
  | tuple vs => exact ⟨_, rfl, stup_const _⟩
  | _ => exact SCell.c _

theorem opd_sound {x : Operand} {k : SV → AM α} (hw : wp C (opd E.n E.G x k) s r t K) (h : At E w0 B Z0 gv s a w Z RV L) :
    ∃ v r', Slot w Z (rOf s) RV v (a.eval x) ∧ wp C (k v) s r' t K := by
  unfold opd at hw
  split at hw
  · rename_i i
    split at hw
    · rename_i hi
      rw [wp_getS] at hw
      obtain ⟨e, he, hw⟩ := hw
      refine ⟨e.s, _, ?_, hw⟩
      have := h.inv.slot i
      simp only [sOf, he, Option.getD_some, tvOf, h.n, hi, if_true] at this
      exact this
    · exact hw.elim
  · exact ⟨_, _, slot_const _, hw⟩
  · rename_i f
    refine ⟨_, _, ?_, hw⟩
    show SCell w Z (rOf s) RV (.fn (.func f) []) (.func (.func f) #[] ([] : List Value).toArray)
    exact .fn .nil
  · rename_i g
    split at hw
    · rename_i vs hg
      refine ⟨_, _, ?_, hw⟩
      obtain ⟨hz, e, fr, hh⟩ := h.inv.glob g vs hg
      refine SCell.sh (Sh.ptr (a := ⟨g, 0, none⟩) (vs := vs) hz rfl hh ?_ ?_ (Shs.of_c vs))
      · simp
      · simp
    · exact hw.elim

theorem scell_c {v V : Value} {R : Nat → List Cell} (h : SCell w Z R RV (.c v) V) : V = v := by
  cases h with
  | c => rfl
  | sh h => cases h; rfl

theorem opC_sound {x : Operand} {k : Cell → AM α} (hw : wp C (opC E.n E.G x k) s r t K) (h : At E w0 B Z0 gv s a w Z RV L) :
    ∃ c r', SCell w Z (rOf s) RV c (a.eval x) ∧ wp C (k c) s r' t K := by
  obtain ⟨v, r', h1, h2⟩ := opd_sound hw h
  cases v with
  | one c => exact ⟨c, r', h1, h2⟩
  | _ => exact h2.elim
theorem opV_sound {x : Operand} {k : Value → AM α} (hw : wp C (opV E.n E.G x k) s r t K) (h : At E w0 B Z0 gv s a w Z RV L) :
    ∃ r', wp C (k (a.eval x)) s r' t K := by
  obtain ⟨c, r', h1, h2⟩ := opC_sound hw h
  cases c with
  | c v => rw [scell_c h1]; exact ⟨r', h2⟩
  | _ => exact h2.elim
theorem opI_sound {x : Operand} {k : IntKind → Int → AM α} (hw : wp C (opI E.n E.G x k) s r t K) (h : At E w0 B Z0 gv s a w Z RV L) :
    ∃ kd n r', a.eval x = .int kd n ∧ wp C (k kd n) s r' t K := by
  obtain ⟨r', h1⟩ := opV_sound hw h
  generalize a.eval x = v at *
  cases v with
  | int kd n => exact ⟨kd, n, r', rfl, h1⟩
  | _ => exact h1.elim
theorem opB_sound {x : Operand} {k : Bool → AM α} (hw : wp C (opB E.n E.G x k) s r t K) (h : At E w0 B Z0 gv s a w Z RV L) :
    ∃ b r', a.eval x = .bool b ∧ wp C (k b) s r' t K := by
  obtain ⟨r', h1⟩ := opV_sound hw h
  generalize a.eval x = v at *
  cases v with
  | bool b => exact ⟨b, r', rfl, h1⟩
  | _ => exact h1.elim

theorem atP_sound {i j : Nat} {k : Option Nat} {F : List Cell → Cell → AM α} (hw : wp C (atP i j k F) s r t K) :
    ∃ x r', i < s.length ∧ getC (rOf s i) j k = some x ∧ okAt k x = true ∧ wp C (F (rOf s i) x) s r' t K := by
  simp only [atP, wp_get, wp_pickK] at hw
  obtain ⟨e, he, x, hx, hw⟩ := hw
  have hr : rOf s i = e.r := by simp [rOf, he]
  split at hw
  · rename_i ho
    exact ⟨x, _, (List.getElem?_eq_some_iff.1 he).1, by rw [hr]; exact hx, ho, by rw [hr]; exact hw⟩
  · exact hw.elim
end

/-- What an operation's proof gives: the machine's operation goes to a state that the precondition allows. -/
def OpOK (P : Program) (E : Env) (o : Oper) : Prop :=
  ∀ (w0 : World) (B Z0 : Nat → Prop) (gv : List Value) (s : List Ent) (a : Act) (w : World) (Z : Nat → Prop) (RV : Nat → Nat → Value) (L : Nat → Nat → List Nat) (r t : List Nat)
    (K : Unit → List Ent → List Nat → List Nat → Prop) (Q : Exit → Act → World → Prop), o.dst.getD 0 < E.n → At E w0 B Z0 gv s a w Z RV L → wp (Ret P E.G) (astep E o) s r t K →
    o.wp P a w (fun a' w' => ∃ s' r' t' Z' RV' L', K () s' r' t' ∧ At E w0 B Z0 gv s' a' w' Z' RV' L') Q

section
variable {P : Program} {E : Env} {o : Oper}
theorem ok_move {x : Operand} (ho : o.op = .move x) : OpOK P E o := by
  intro w0 B Z0 gv s a w Z RV L r t K Q hd h hw
  simp only [astep, ho] at hw
  obtain ⟨v, r', hv, hw⟩ := opd_sound hw h
  obtain ⟨s', r', t', hk, h'⟩ := setD_sound hw h hd hv
  exact wp_value (w' := w) (by simp [execOp, ho]) ⟨s', r', t', _, _, _, hk, h'⟩
theorem ok_assign {x : Operand} (ho : o.op = .assign x) : OpOK P E o := by
  intro w0 B Z0 gv s a w Z RV L r t K Q hd h hw
  simp only [astep, ho] at hw
  obtain ⟨v, r', hv, hw⟩ := opd_sound hw h
  obtain ⟨s', r', t', hk, h'⟩ := setD_sound hw h hd hv
  exact wp_value (w' := w) (by simp [execOp, ho]) ⟨s', r', t', _, _, _, hk, h'⟩
theorem ok_pick {c x y : Operand} (ho : o.op = .pick c x y) : OpOK P E o := by
  intro w0 B Z0 gv s a w Z RV L r t K Q hd h hw
  simp only [astep, ho] at hw
  obtain ⟨b, r', hb, hw⟩ := opB_sound hw h
  cases b with
  | true =>
    obtain ⟨v, r', hv, hw⟩ := opd_sound (show wp _ (opd E.n E.G x fun v => setD o.dst v) s r' t K from iteP.of_t hw) h
    obtain ⟨s', r', t', hk, h'⟩ := setD_sound hw h hd hv
    exact wp_value (w' := w) (by simp [execOp, ho, hb, asBool]) ⟨s', r', t', _, _, _, hk, h'⟩
  | false =>
    obtain ⟨v, r', hv, hw⟩ := opd_sound (show wp _ (opd E.n E.G y fun v => setD o.dst v) s r' t K from iteP.of_f hw) h
    obtain ⟨s', r', t', hk, h'⟩ := setD_sound hw h hd hv
    exact wp_value (w' := w) (by simp [execOp, ho, hb, asBool]) ⟨s', r', t', _, _, _, hk, h'⟩

theorem run_equalIn_bool {ty : TypeId} (hty : P.underlying ty = some .bool) (n : Nat) (a b : Bool) (w : World) : (Op.equalIn (n + 1) ty (.bool a) (.bool b)).run P w = .ok (a == b) w := by
  rw [Op.equalIn]
  simp [run_underlying hty]
theorem run_equal_bool {ty : TypeId} (hty : P.underlying ty = some .bool) (a b : Bool) (w : World) : (Op.equal ty (.bool a) (.bool b)).run P w = .ok (a == b) w :=
  run_equalIn_bool hty 9999 a b w
theorem binV_sound {C : FuncId → List Arg → Res → Prop} {α : Type} {K : α → List Ent → List Nat → List Nat → Prop} {op : BinOp} {u v : Value} {d : Option TypeDesc} {k : Value → AM α} {s : List Ent} {r t : List Nat}
    (hw : wp C (binV op d u v k) s r t K) (ty : TypeId) (hk : d = some .bool → P.underlying ty = some .bool) (w : World) (x y : Operand) :
    ∃ z, (do eqGuard op ty x y u v; Go.binOp op ty u v : Sem Value).run P w = .ok z w ∧ wp C (k z) s r t K := by
  unfold binV at hw
  split at hw
  · rename_i kd a kd' b
    split at hw
    · obtain ⟨h0, hw⟩ := hw
      exact ⟨_, by simp [eqGuard, Go.binOp, Op.shift, Int.not_lt.2 h0], hw⟩
    · obtain ⟨h0, hw⟩ := hw
      exact ⟨_, by simp [eqGuard, Go.binOp, Op.shift, Int.not_lt.2 h0], hw⟩
    · rename_i hl hr
      split at hw
      · rename_i hkk
        subst hkk
        unfold binI at hw
        split at hw <;> first
          | exact hw.elim
          | (refine ⟨_, ?_, hw⟩; simp [eqGuard, Go.binOp, Op.intArith]; done)
          | (refine ⟨_, ?_, hw.2⟩; simp [eqGuard, Go.binOp, Op.intDiv, hw.1]; done)
          | (refine ⟨_, ?_, hw⟩; simp [eqGuard, Go.binOp, Op.intCmp]; done)
          | (refine ⟨_, ?_, hw⟩; simp only [eqGuard, Go.binOp, Op.intBits]; simp only [ne_eq, not_true_eq_false, if_false, Sem.run_bind, Sem.run_pure]; rfl)
      · exact hw.elim
  · unfold binS at hw
    split at hw
    · refine ⟨_, ?_, hw.2⟩
      have h1 := hw.1
      simp [eqGuard, Go.binOp, Op.stringOp, IntKind.max, IntKind.signed, IntKind.bits]
      omega
    · refine ⟨_, ?_, hw⟩; simp [eqGuard, Go.binOp, Op.stringOp, beq_toListBytes, ByteArray.toList_eq]
    · refine ⟨_, ?_, hw⟩; simp [eqGuard, Go.binOp, Op.stringOp, beq_toListBytes, ByteArray.toList_eq]
    · exact hw.elim
  · rename_i a b
    split at hw
    · have hty := hk rfl
      split at hw
      · refine ⟨_, ?_, hw⟩; simp [eqGuard, Go.binOp, run_equal_bool hty]
      · refine ⟨_, ?_, hw⟩; simp [eqGuard, Go.binOp, run_equal_bool hty]
      · exact hw.elim
    · exact hw.elim
  · exact hw.elim
end
end Go.Den

/- Operations that write no memory. -/
namespace Go.Den

section
variable {w : World} {Z : Nat → Prop} {V : Value} {l : List Nat} {cs : List Cell} {ks : List Value} {sz n : Nat} {es : Bool}
theorem Ow.sl_inv (h : Ow w Z (.sl false sz n cs) V l) : (∃ b cap cur e l', V = .slice (some ⟨b, 0, none⟩) n cap ∧ l = b :: l' ∧ w.heap[b]? = some (.cells cur e (0, 0)) ∧
    cs.length = n * sz ∧ cur.size = cap * sz ∧ n ≤ cap ∧ cap ≤ 9223372036854775807 ∧ Ows w noZ cs (cur.toList.take (n * sz)) l') ∨ (V = .slice none 0 0 ∧ n = 0 ∧ cs = [] ∧ l = []) := by
  cases h with
  | sl hh hlen hroom hcap hmax hv hc => subst hv; exact .inl ⟨_, _, _, _, _, rfl, rfl, hh, hlen, hroom, hcap, hmax, hc⟩
  | nil => exact .inr ⟨rfl, rfl, rfl, rfl⟩
theorem Ow.sl_ne (h : Ow w Z (.sl false sz n cs) V l) (hne : cs ≠ []) : ∃ b cap cur e l', V = .slice (some ⟨b, 0, none⟩) n cap ∧ l = b :: l' ∧ w.heap[b]? = some (.cells cur e (0, 0)) ∧
    cs.length = n * sz ∧ cur.size = cap * sz ∧ n ≤ cap ∧ cap ≤ 9223372036854775807 ∧ Ows w noZ cs (cur.toList.take (n * sz)) l' :=
  h.sl_inv.elim id fun h => absurd h.2.2.1 hne
theorem Ow.sl_at (h : Ow w Z (.sl false sz n cs) V l) {j : Nat} {x : Cell} (hx : cs[j]? = some x) : ∃ b cap cur e l', V = .slice (some ⟨b, 0, none⟩) n cap ∧ l = b :: l' ∧ w.heap[b]? = some (.cells cur e (0, 0)) ∧
    cs.length = n * sz ∧ cur.size = cap * sz ∧ n ≤ cap ∧ cap ≤ 9223372036854775807 ∧ Ows w noZ cs (cur.toList.take (n * sz)) l' :=
  h.sl_ne fun e => by rw [e] at hx; simp at hx
theorem Ow.sls_inv (h : Ow w Z (.sl true sz n cs) V l) : (∃ b cap cur e, V = .slice (some ⟨b, 0, none⟩) n cap ∧ l = [b] ∧ w.heap[b]? = some (.cells cur e (0, 0)) ∧
    cs.length = n * sz ∧ cur.size = cap * sz ∧ n ≤ cap ∧ cap ≤ 9223372036854775807 ∧ Shs w Z cs (cur.toList.take (n * sz))) ∨ (V = .slice none 0 0 ∧ n = 0 ∧ cs = [] ∧ l = []) := by
  cases h with
  | sls hh hlen hroom hcap hmax hv hc => subst hv; exact .inl ⟨_, _, _, _, rfl, rfl, hh, hlen, hroom, hcap, hmax, hc⟩
  | nil => exact .inr ⟨rfl, rfl, rfl, rfl⟩
theorem Ow.sls_ne (h : Ow w Z (.sl true sz n cs) V l) (hne : cs ≠ []) : ∃ b cap cur e, V = .slice (some ⟨b, 0, none⟩) n cap ∧ l = [b] ∧ w.heap[b]? = some (.cells cur e (0, 0)) ∧
    cs.length = n * sz ∧ cur.size = cap * sz ∧ n ≤ cap ∧ cap ≤ 9223372036854775807 ∧ Shs w Z cs (cur.toList.take (n * sz)) :=
  h.sls_inv.elim id fun h => absurd h.2.2.1 hne
theorem Ow.shd_inv {x : Cell} (h : Ow w Z (.shd x) V l) : l = [] ∧ Sh w Z x V := by
  cases h with
  | shd h => exact ⟨rfl, h⟩
theorem Ow.mp_inv (h : Ow w Z (.mp false ks cs) V l) : ∃ b es clock l', V = .map (some b) ∧ l = b :: l' ∧ w.heap[b]? = some (.map es clock) ∧ es.toList.map (·.key) = ks ∧ Ows w noZ cs (es.toList.map (·.val)) l' := by
  cases h with
  | mp hh hk hc => exact ⟨_, _, _, _, rfl, rfl, hh, hk, hc⟩
theorem Ow.mps_inv (h : Ow w Z (.mp true ks cs) V l) : ∃ b es clock, V = .map (some b) ∧ l = [b] ∧ w.heap[b]? = some (.map es clock) ∧ es.toList.map (·.key) = ks ∧ Shs w Z cs (es.toList.map (·.val)) := by
  cases h with
  | mps hh hk hc => exact ⟨_, _, _, rfl, rfl, hh, hk, hc⟩
theorem Sh.sl_inv (h : Sh w Z (.sl es sz n cs) V) : (∃ a cap vs, V = .slice (some a) n cap ∧ cs.length = n * sz ∧ n ≤ cap ∧ Shs w Z cs vs ∧
    (cs ≠ [] → Z a.block ∧ a.spot = none ∧ ∃ (cur : Array Value) (e : TypeId) (fr : Nat × Nat), w.heap[a.block]? = some (.cells cur e fr) ∧ a.off + n * sz ≤ cur.size ∧ vs = (cur.toList.drop a.off).take (n * sz))) ∨
    (V = .slice none 0 0 ∧ n = 0 ∧ cs = []) := by
  cases h with
  | sl hlen hcap hc hm => exact .inl ⟨_, _, _, rfl, hlen, hcap, hc, hm⟩
  | nil => exact .inr ⟨rfl, rfl, rfl⟩
/-- A slice's value. -/
theorem Sh.sl_val (h : Sh w Z (.sl es sz n cs) V) : ∃ a cap, V = .slice a n cap ∧ cs.length = n * sz := by
  rcases h.sl_inv with ⟨a, cap, vs, h1, h2, -⟩ | ⟨h1, h2, h3⟩
  · exact ⟨_, _, h1, h2⟩
  · subst h2 h3; exact ⟨_, _, h1, by simp⟩
theorem Sh.ptr_inv (h : Sh w Z (.ptr cs) V) : ∃ a cur e fr, V = .pointer (some a) ∧ Z a.block ∧ a.spot = none ∧ w.heap[a.block]? = some (.cells cur e fr) ∧
    a.off + cs.length ≤ cur.size ∧ Shs w Z cs ((cur.toList.drop a.off).take cs.length) := by
  cases h with
  | ptr hz hs hh hroom hv hc => subst hv; exact ⟨_, _, _, _, rfl, hz, hs, hh, hroom, hc⟩
theorem Sh.mp_inv (h : Sh w Z (.mp es ks cs) V) : ∃ b ents clock, V = .map (some b) ∧ Z b ∧ w.heap[b]? = some (.map ents clock) ∧ ents.toList.map (·.key) = ks ∧ Shs w Z cs (ents.toList.map (·.val)) := by
  cases h with
  | mp hz hh hk hc => exact ⟨_, _, _, rfl, hz, hh, hk, hc⟩
theorem Ow.sl_addr {A : Addr} (h : Ow w Z (.sl false sz n cs) V l) (hA : addrOf V = some A) : ∃ b cap cur e l', V = .slice (some ⟨b, 0, none⟩) n cap ∧ l = b :: l' ∧ w.heap[b]? = some (.cells cur e (0, 0)) ∧
    cs.length = n * sz ∧ cur.size = cap * sz ∧ n ≤ cap ∧ cap ≤ 9223372036854775807 ∧ Ows w noZ cs (cur.toList.take (n * sz)) l' :=
  h.sl_inv.elim id fun h => by rw [h.1] at hA; cases hA
theorem Ow.sls_addr {A : Addr} (h : Ow w Z (.sl true sz n cs) V l) (hA : addrOf V = some A) : ∃ b cap cur e, V = .slice (some ⟨b, 0, none⟩) n cap ∧ l = [b] ∧ w.heap[b]? = some (.cells cur e (0, 0)) ∧
    cs.length = n * sz ∧ cur.size = cap * sz ∧ n ≤ cap ∧ cap ≤ 9223372036854775807 ∧ Shs w Z cs (cur.toList.take (n * sz)) :=
  h.sls_inv.elim id fun h => by rw [h.1] at hA; cases hA
/-- A slice of either kind, as a slot's value. -/
theorem Ow.any_sl (h : Ow w Z (.sl es sz n cs) V l) : (∃ b cap cur e, V = .slice (some ⟨b, 0, none⟩) n cap ∧ b ∈ l ∧ w.heap[b]? = some (.cells cur e (0, 0)) ∧
    cs.length = n * sz ∧ cur.size = cap * sz ∧ n ≤ cap ∧ cap ≤ 9223372036854775807) ∨ (V = .slice none 0 0 ∧ n = 0 ∧ cs = [] ∧ l = []) := by
  cases es with
  | false => exact h.sl_inv.imp (fun ⟨b, cap, cur, e, l', h1, h2, h3, h4, h5, h6, h7, _⟩ => ⟨b, cap, cur, e, h1, by simp [h2], h3, h4, h5, h6, h7⟩) id
  | true => exact h.sls_inv.imp (fun ⟨b, cap, cur, e, h1, h2, h3, h4, h5, h6, h7, _⟩ => ⟨b, cap, cur, e, h1, by simp [h2], h3, h4, h5, h6, h7⟩) id
theorem Ow.any_ne (h : Ow w Z (.sl es sz n cs) V l) (hne : n ≠ 0) : ∃ b cap cur e, V = .slice (some ⟨b, 0, none⟩) n cap ∧ b ∈ l ∧ w.heap[b]? = some (.cells cur e (0, 0)) ∧
    cs.length = n * sz ∧ cur.size = cap * sz ∧ n ≤ cap ∧ cap ≤ 9223372036854775807 :=
  h.any_sl.elim id fun h => absurd h.2.1 hne
/-- Its value, whatever it leads to. -/
theorem Ow.any_val (h : Ow w Z (.sl es sz n cs) V l) : ∃ a cap, V = .slice a n cap ∧ cs.length = n * sz := by
  rcases h.any_sl with ⟨b, cap, cur, e, h1, -, -, h4, -⟩ | ⟨h1, h2, h3, -⟩
  · exact ⟨_, _, h1, h4⟩
  · subst h2 h3; exact ⟨_, _, h1, by simp⟩
end

theorem add_off (b n : Nat) : (⟨b, 0, none⟩ : Addr).add n = ⟨b, n, none⟩ := by unfold Addr.add; split <;> simp_all
theorem add_at (a : Addr) (n : Nat) (h : a.spot = none) : a.add n = ⟨a.block, a.off + n, none⟩ := by
  unfold Addr.add
  cases a
  split <;> simp_all
theorem cell_at {w : World} {b j : Nat} {cur : Array Value} {e : TypeId} {fr : Nat × Nat} (h : w.heap[b]? = some (.cells cur e fr)) : w.cell? ⟨b, j, none⟩ = cur.toList[j]? := by
  rw [cell_of_row w b j cur e fr h]; simp

section
variable {P : Program} {E : Env} {o : Oper}

section
variable {w0 : World} {B Z0 : Nat → Prop} {gv : List Value} {s : List Ent} {a : Act} {w : World} {Z : Nat → Prop} {RV : Nat → Nat → Value} {L : Nat → Nat → List Nat}
/-- The state behind an operation that goes to value V in an unchanged world. -/
theorem fin_value {r t : List Nat} {K : Unit → List Ent → List Nat → List Nat → Prop} {Q : Exit → Act → World → Prop} {v : SV} {V : Value} (hd : o.dst.getD 0 < E.n)
    (h : At E w0 B Z0 gv s a w Z RV L) (hw : wp (Ret P E.G) (setD o.dst v) s r t K) (hv : Slot w Z (rOf s) RV v V) (hr : (execOp a.eval o).run P w = .ok (.value V) w) :
    o.wp P a w (fun a' w' => ∃ s' r' t' Z' RV' L', K () s' r' t' ∧ At E w0 B Z0 gv s' a' w' Z' RV' L') Q := by
  obtain ⟨s', r', t', hk, h'⟩ := setD_sound hw h hd hv
  exact wp_value hr ⟨s', r', t', _, _, _, hk, h'⟩

/-- The value under a name. -/
theorem name_value (h : At E w0 B Z0 gv s a w Z RV L) {r i : Nat} {k : Option Nat} {x : Cell} {V : Value} (hc : SCell w Z (rOf s) RV (.hd r i k) V)
    (hx : getC (rOf s r) i k = some x) (hh : okAt k x = true) : (k = none ∧ V = RV r i ∧ RC w Z (rOf s) RV x V (L r i)) ∨
      (k ≠ none ∧ isHdr x = true ∧ (∀ ys, x ≠ .ptr ys) ∧ ∃ l, Ow w noZ x V l ∧ ∀ b, b ∈ l → b ∈ L r i) := by
  cases hc with
  | sh hx => cases hx
  | hd hlt => exact .inl ⟨rfl, rfl, h.inv.root r i x hx⟩
  | hde hlt hv =>
    rename_i j
    have hh' : isHdr x = true := by cases x <;> simp_all [okAt, isHdr]
    refine .inr ⟨by simp, hh', by cases x <;> simp_all [okAt], ?_⟩
    have hel := hv x hx hh'
    simp only [getC] at hx
    split at hx
    · rename_i sz n cs hroot
      have hrc := h.inv.root r i _ hroot
      simp only [RC] at hrc
      obtain ⟨b, cap, cur, e, l', e1, e2, h3, h4, h5, h6, h7, h8⟩ := hrc.sl_at hx
      obtain ⟨u, l1, lx, l2, hu, hl', hox, -⟩ := h8.split hx
      rw [e1] at hel
      simp only [elemV, addrOf, Option.bind_some, add_off, cell_at h3] at hel
      have : (cur.toList.take (n * sz))[j]? = some V := by
        have h9 := List.getElem?_take (l := cur.toList) (i := n * sz) (j := j)
        rw [hu] at h9
        split at h9
        · rw [hu, h9, hel]
        · simp at h9
      rw [this] at hu
      obtain rfl := Option.some.inj hu
      exact ⟨lx, hox, fun b hb => by rw [e2, hl']; simp [hb]⟩
    · simp at hx

end

end
end Go.Den

/- Names: what is read through them, what is taken out, what is shared. -/
namespace Go.Den

def upd2 {β : Type} (f : Nat → Nat → β) (r i : Nat) (y : β) : Nat → Nat → β := fun r' i' => if r' = r ∧ i' = i then y else f r' i'
theorem upd2_same {β : Type} (f : Nat → Nat → β) (r i : Nat) (y : β) : upd2 f r i y r i = y := by simp [upd2]
theorem upd2_ne {β : Type} (f : Nat → Nat → β) {r i r' i' : Nat} (y : β) (h : (r', i') ≠ (r, i)) : upd2 f r i y r' i' = f r' i' := by
  unfold upd2
  rw [if_neg]
  rintro ⟨rfl, rfl⟩
  exact h rfl

/-- Blocks of one's own, or shared. -/
def ZA (Z : Nat → Prop) (L : Nat → Nat → List Nat) : Nat → Prop := fun b => Z b ∨ ∃ r i, b ∈ L r i

mutual
theorem Ow.sh {w : World} : ∀ {Z Z' : Nat → Prop} {x : Cell} {v : Value} {l : List Nat}, Ow w Z x v l → (∀ b, Z b → Z' b) → (∀ b, b ∈ l → Z' b) → Sh w Z' x v
  | _, _, _, _, _, .c _ v, _, _ => .c v
  | _, _, _, _, _, .hole _ v, _, _ => .hole v
  | _, _, _, _, _, .shd h, hz, _ => .shd (h.frame hz fun _ _ => rfl)
  | _, _, _, _, _, .sl h1 h2 h3 h4 h5 h6 h7, hz, hl => .sl h2 h4 (h7.sh (fun _ h => h.elim) fun b hb => hl b (by simp [hb])) fun _ => ⟨hl _ (by simp), rfl, _, _, _, h1, by simp [h3]; exact Nat.mul_le_mul_right _ h4, by simpa using h6⟩
  | _, _, _, _, _, .sls h1 h2 h3 h4 h5 h6 h7, hz, hl => .sl h2 h4 (h7.frame hz fun _ _ => rfl) fun _ => ⟨hl _ (by simp), rfl, _, _, _, h1, by simp [h3]; exact Nat.mul_le_mul_right _ h4, by simpa using h6⟩
  | _, _, _, _, _, .nil _ es sz, _, _ => .nil es sz
  | _, _, _, _, _, .ptr h1 h2, hz, hl => by
    have h2' := h2.sh hz fun b hb => hl b (by simp [hb])
    have hlen := h2'.length
    exact .ptr (a := ⟨_, 0, none⟩) (hl _ (by simp)) rfl h1 (by simp at hlen ⊢; omega) (by simp at hlen ⊢; rw [List.take_of_length_le (by simp; omega)]) h2'
  | _, _, _, _, _, .mp h1 h2 h3, hz, hl => .mp (hl _ (by simp)) h1 h2 (h3.sh (fun _ h => h.elim) fun b hb => hl b (by simp [hb]))
  | _, _, _, _, _, .mps h1 h2 h3, hz, hl => .mp (hl _ (by simp)) h1 h2 (h3.frame hz fun _ _ => rfl)
  | _, _, _, _, _, .fn h, hz, hl => .fn (h.sh hz hl)
theorem Ows.sh {w : World} : ∀ {Z Z' : Nat → Prop} {xs : List Cell} {vs : List Value} {l : List Nat}, Ows w Z xs vs l → (∀ b, Z b → Z' b) → (∀ b, b ∈ l → Z' b) → Shs w Z' xs vs
  | _, _, _, _, _, .nil _, _, _ => .nil
  | _, _, _, _, _, .cons h t, hz, hl => .cons (h.sh hz fun b hb => hl b (by simp [hb])) (t.sh hz fun b hb => hl b (by simp [hb]))
end
mutual
theorem Sh.ro {w : World} {Z : Nat → Prop} : ∀ {x : Cell} {v : Value}, Sh w Z x v → Sh w Z (ro x) v
  | _, _, .c v => .c v
  | _, _, .hole v => .hole v
  | _, _, .shd h => h
  | _, _, .sl h1 h2 h3 h4 => .sl h1 h2 h3 h4
  | _, _, .nil es sz => .nil _ sz
  | _, _, .ptr (cs := cs) h1 h2 h3 h4 h5 h6 => by
    have h6' := h6.roL
    have hl : (roL cs).length = cs.length := by rw [h6'.length, h6.length]
    exact .ptr h1 h2 h3 (by rw [hl]; exact h4) (by rw [hl]; exact h5) h6'
  | _, _, .mp h1 h2 h3 h4 => .mp h1 h2 h3 h4
  | _, _, .fn h => .fn h.roL
theorem Shs.roL {w : World} {Z : Nat → Prop} : ∀ {xs : List Cell} {vs : List Value}, Shs w Z xs vs → Shs w Z (roL xs) vs
  | _, _, .nil => .nil
  | _, _, .cons h t => .cons h.ro t.roL
end
mutual
theorem Ow.noShd {w : World} : ∀ {Z Z' : Nat → Prop} {x : Cell} {v : Value} {l : List Nat}, Ow w Z x v l → hasShd x = false → Ow w Z' x v l
  | _, _, _, _, _, .c _ v, _ => .c _ v
  | _, _, _, _, _, .hole _ v, _ => .hole _ v
  | _, _, _, _, _, .shd _, hs => by simp [hasShd] at hs
  | _, _, _, _, _, .sl h1 h2 h3 h4 h5 h6 h7, _ => .sl h1 h2 h3 h4 h5 h6 h7
  | _, _, _, _, _, .sls .., hs => by simp [hasShd] at hs
  | _, _, _, _, _, .nil _ es sz, _ => .nil _ es sz
  | _, _, _, _, _, .ptr h1 h2, hs => .ptr h1 (h2.noShd (by simpa [hasShd] using hs))
  | _, _, _, _, _, .mp h1 h2 h3, _ => .mp h1 h2 h3
  | _, _, _, _, _, .mps .., hs => by simp [hasShd] at hs
  | _, _, _, _, _, .fn h, hs => .fn (h.noShd (by simpa [hasShd] using hs))
theorem Ows.noShd {w : World} : ∀ {Z Z' : Nat → Prop} {xs : List Cell} {vs : List Value} {l : List Nat}, Ows w Z xs vs l → hasShdL xs = false → Ows w Z' xs vs l
  | _, _, _, _, _, .nil _, _ => .nil _
  | _, _, _, _, _, .cons h t, hs => by
    simp only [hasShdL, Bool.or_eq_false_iff] at hs
    exact .cons (h.noShd hs.1) (t.noShd hs.2)
end
theorem Ow.zmono {w : World} {Z Z' : Nat → Prop} {x : Cell} {v : Value} {l : List Nat} (h : Ow w Z x v l) (hz : ∀ b, Z b → Z' b) : Ow w Z' x v l :=
  h.frame hz (fun _ _ => rfl) fun _ _ => rfl
theorem Sh.zmono {w : World} {Z Z' : Nat → Prop} {x : Cell} {v : Value} (h : Sh w Z x v) (hz : ∀ b, Z b → Z' b) : Sh w Z' x v := h.frame hz fun _ _ => rfl
theorem Shs.zmono {w : World} {Z Z' : Nat → Prop} {x : List Cell} {v : List Value} (h : Shs w Z x v) (hz : ∀ b, Z b → Z' b) : Shs w Z' x v := h.frame hz fun _ _ => rfl

section
variable {E : Env} {w0 : World} {B Z0 : Nat → Prop} {gv : List Value} {s : List Ent} {a : Act} {w : World} {Z : Nat → Prop} {RV : Nat → Nat → Value}
  {L : Nat → Nat → List Nat} {C : FuncId → List Arg → Res → Prop} {α : Type} {t : List Nat} {K : α → List Ent → List Nat → List Nat → Prop}

/-- A named tree of one's own, as shared. -/
theorem At.root_sh (_h : At E w0 B Z0 gv s a w Z RV L) {r i : Nat} {x : Cell} (hx : RC w Z (rOf s) RV x (RV r i) (L r i)) (hp : ∀ ys, x ≠ .ptr ys) : Sh w (ZA Z L) x (RV r i) := by
  have : Ow w Z x (RV r i) (L r i) := by
    cases x <;> first | exact hx | exact absurd rfl (hp _)
  exact this.sh (fun b hb => .inl hb) fun b hb => .inr ⟨r, i, hb⟩

theorem scell_sl {R : Nat → List Cell} {es : Bool} {sz n : Nat} {cs : List Cell} {V : Value} (h : SCell w Z R RV (.sl es sz n cs) V) : Sh w Z (.sl es sz n cs) V := by
  cases h with | sh h => exact h
theorem scell_mp {R : Nat → List Cell} {es : Bool} {ks : List Value} {cs : List Cell} {V : Value} (h : SCell w Z R RV (.mp es ks cs) V) : Sh w Z (.mp es ks cs) V := by
  cases h with | sh h => exact h
theorem scell_ptr {R : Nat → List Cell} {cs : List Cell} {V : Value} (h : SCell w Z R RV (.ptr cs) V) : Sh w Z (.ptr cs) V := by
  cases h with | sh h => exact h

theorem rd_sound (h : At E w0 B Z0 gv s a w Z RV L) : ∀ n,
    (∀ {x : Cell} {V : Value} {k : Cell → AM α} {r : List Nat}, SCell w Z (rOf s) RV x V → wp C (rdC n x k) s r t K → ∃ y r', Sh w (ZA Z L) y V ∧ wp C (k y) s r' t K) ∧
    (∀ {xs : List Cell} {vs : List Value} {k : List Cell → AM α} {r : List Nat}, SCells w Z (rOf s) RV xs vs → wp C (rdL n xs k) s r t K → ∃ ys r', Shs w (ZA Z L) ys vs ∧ wp C (k ys) s r' t K)
  | 0 => ⟨fun _ hw => by simp [rdC, wp] at hw, fun _ hw => by simp [rdL, wp] at hw⟩
  | n + 1 => by
    obtain ⟨ih1, ih2⟩ := rd_sound h n
    refine ⟨fun {x V k r} hc hw => ?_, fun {xs vs k r} hc hw => ?_⟩
    · cases x with
      | hd rr i kk =>
        simp only [rdC] at hw
        obtain ⟨y, r', hlt, hx, hok, hw⟩ := atP_sound hw
        rcases name_value h hc hx hok with ⟨rfl, rfl, hrc⟩ | ⟨hn, hh, hp, l, ho, hl⟩
        · cases y with
          | sl => exact ⟨_, r', (h.root_sh hrc (by simp)).ro, hw⟩
          | mp => exact ⟨_, r', (h.root_sh hrc (by simp)).ro, hw⟩
          | shd z => exact ⟨_, r', (Ow.shd_inv hrc).2.zmono fun b hb => .inl hb, hw⟩
          | ptr ys =>
            obtain ⟨b, cur, e, e1, e2, h3, h4⟩ := hrc
            obtain ⟨zs, r'', hz, hw⟩ := ih2 h4 hw
            refine ⟨_, r'', ?_, hw⟩
            rw [e1]
            have hlen := hz.length
            exact .ptr (.inr ⟨rr, i, by rw [e2]; simp⟩) rfl h3 (by simp at hlen ⊢; omega) (by simp at hlen ⊢; rw [List.take_of_length_le (by simp; omega)]) hz
          | _ => exact hw.elim
        · have hs := ho.sh (Z' := ZA Z L) (fun _ h => h.elim) fun b hb => .inr ⟨rr, i, hl b hb⟩
          cases y with
          | sl => exact ⟨_, r', hs.ro, hw⟩
          | mp => exact ⟨_, r', hs.ro, hw⟩
          | ptr ys => exact absurd rfl (hp ys)
          | hole => exact hw.elim
          | _ => simp [isHdr] at hh
      | ad rr i kk j =>
        simp only [rdC] at hw
        obtain ⟨y, r', hlt, hx, hok, hw2⟩ := atP_sound hw
        clear hw
        have hw := hw2
        clear hw2
        cases y with
        | ptr ys =>
          have hk : kk = none := by cases kk <;> simp_all [okAt]
          subst hk
          have hrc := h.inv.root rr i _ hx
          obtain ⟨b, cur, e, e1, e2, h3, h4⟩ := hrc
          by_cases hj : j ≤ ys.length
          · simp only [if_pos hj] at hw
            obtain ⟨zs, r'', hz, hw⟩ := ih2 (h4.drop j) hw
            refine ⟨_, r'', ?_, hw⟩
            cases hc with
            | sh hx => cases hx
            | ad hlt ha =>
              rw [e1] at ha
              obtain rfl := Option.some.inj ha
              rw [add_off]
              have hlen := hz.length
              have hlen4 := h4.length
              simp at hlen hlen4
              exact .ptr (.inr ⟨rr, i, by rw [e2]; simp⟩) rfl h3 (by simp; omega) (by simp; rw [List.take_of_length_le (by simp; omega)]) hz
          · simp only [if_neg hj] at hw
            exact hw.elim
        | _ => exact hw.elim
      | fn f caps =>
        simp only [rdC] at hw
        have hc' : ∃ vs, V = .func f #[] vs.toArray ∧ SCells w Z (rOf s) RV caps vs := by
          cases hc with
          | sh hx => cases hx with | fn hx => exact ⟨_, rfl, .of_shs hx⟩
          | fn hc => exact ⟨_, rfl, hc⟩
        obtain ⟨vs, rfl, hcs⟩ := hc'
        obtain ⟨zs, r', hz, hw⟩ := ih2 hcs hw
        exact ⟨_, r', .fn hz, hw⟩
      | hole => exact hw.elim
      | shd => exact hw.elim
      | c v => obtain rfl := scell_c hc; exact ⟨_, r, .c _, hw⟩
      | sl => exact ⟨_, r, (scell_sl hc).zmono fun b hb => .inl hb, hw⟩
      | mp => exact ⟨_, r, (scell_mp hc).zmono fun b hb => .inl hb, hw⟩
      | ptr => exact ⟨_, r, (scell_ptr hc).zmono fun b hb => .inl hb, hw⟩
    · cases hc with
      | nil => exact ⟨[], r, .nil, hw⟩
      | cons hc ht =>
        simp only [rdL] at hw
        obtain ⟨y, r', hy, hw⟩ := ih1 hc hw
        obtain ⟨ys, r'', hys, hw⟩ := ih2 ht hw
        exact ⟨_, r'', .cons hy hys, hw⟩
end
end Go.Den

/- What is taken out of the names, and what is frozen. -/
namespace Go.Den

section
variable {E : Env} {w0 : World} {B Z0 : Nat → Prop} {gv : List Value} {s : List Ent} {a : Act} {w : World} {Z : Nat → Prop} {RV : Nat → Nat → Value}
  {L : Nat → Nat → List Nat} {C : FuncId → List Arg → Res → Prop} {α : Type} {t : List Nat} {K : α → List Ent → List Nat → List Nat → Prop}

/-- The names' trees under r are replaced by X. -/
theorem At.names (h : At E w0 B Z0 gv s a w Z RV L) {r : Nat} (hr : r < s.length) {X : List Cell} {w' : World} {Z' : Nat → Prop} {RV' : Nat → Nat → Value}
    {L' : Nat → Nat → List Nat} {D : Nat → Prop} {R' : Nat → List Cell} (hR : R' = fun j => if j = r then X else rOf s j)
    (hx : Ext D w w') (hd : ∀ b, D b → ¬ Z b ∧ (B b ∨ w0.heap.size ≤ b)) (hz : ∀ b, Z b → Z' b)
    (hz' : ∀ b, Z' b → Z b ∨ (b < w'.heap.size ∧ (B b ∨ w0.heap.size ≤ b)))
    (hrf : Refs w w' (rOf s) R' RV RV')
    (hroot : ∀ r i x, (R' r)[i]? = some x → ((rOf s r)[i]? = some x ∧ L' r i = L r i ∧ ∀ b, b ∈ L r i → ¬ D b) ∨ RC w' Z' R' RV' x (RV' r i) (L' r i))
    (hn : ∀ r i, (L' r i).Nodup) (hsep : ∀ r i r' i', (r, i) ≠ (r', i') → ∀ b, b ∈ L' r i → b ∉ L' r' i')
    (hown : ∀ r i b, b ∈ L' r i → ¬ Z' b ∧ b < w'.heap.size ∧ (B b ∨ w0.heap.size ≤ b)) (hout : ∀ r i, (R' r)[i]? = none → L' r i = []) (hone : ∀ r i, i < (R' r).length → HdrV (RV' r i)) :
    At E w0 B Z0 gv (s.set r ⟨sOf s r, X⟩) a w' Z' RV' L' := by
  have hS : sOf (s.set r ⟨sOf s r, X⟩) = sOf s := by
    funext j
    rw [sOf_set hr]
    split
    · rename_i e; rw [e]
    · rfl
  have hR2 : rOf (s.set r ⟨sOf s r, X⟩) = R' := by
    funext j
    rw [rOf_set hr, hR]
  refine ⟨h.n, by simp [h.len], h.dfr, ?_⟩
  rw [hS, hR2]
  exact h.inv.step hx hd hz hz' hrf hroot hn hsep hown hout hone

/-- What has been taken: the blocks. -/
structure Taken (L L' : Nat → Nat → List Nat) (l : List Nat) : Prop where
  sub : ∀ r i b, b ∈ L' r i → b ∈ L r i
  nodup : l.Nodup
  from_ : ∀ b, b ∈ l → ∃ r i, b ∈ L r i
  gone : ∀ b, b ∈ l → ∀ r i, b ∉ L' r i
theorem Taken.nil (L : Nat → Nat → List Nat) : Taken L L [] := ⟨fun _ _ _ h => h, .nil, by simp, by simp⟩
theorem Taken.append {L L' L'' : Nat → Nat → List Nat} {l m : List Nat} (h : Taken L L' l) (k : Taken L' L'' m) : Taken L L'' (l ++ m) :=
  ⟨fun r i b hb => h.sub r i b (k.sub r i b hb), List.nodup_append.2 ⟨h.nodup, k.nodup, fun x hx y hy e => by
      subst e
      obtain ⟨r, i, hb⟩ := k.from_ x hy
      exact h.gone x hx r i hb⟩,
    fun b hb => by
      rcases List.mem_append.1 hb with hb | hb
      · exact h.from_ b hb
      · obtain ⟨r, i, hb⟩ := k.from_ b hb; exact ⟨r, i, h.sub r i b hb⟩,
    fun b hb r i hb' => by
      rcases List.mem_append.1 hb with hb | hb
      · exact h.gone b hb r i (k.sub r i b hb')
      · exact k.gone b hb r i hb'⟩

theorem exch_refs {r i : Nat} (hr : r < s.length) (hi : i < (rOf s r).length) {y : Cell}
    (he : ∀ k x, getC [y] 0 (some k) = some x → isHdr x = true → ∃ x0, getC (rOf s r) i (some k) = some x0 ∧ isHdr x0 = true) :
    Refs w w (rOf s) (rOf (s.set r ⟨sOf s r, (rOf s r).set i y⟩)) RV RV := by
  refine ⟨fun r' i' hlt => ⟨?_, rfl⟩, fun r' i' k x hlt hx hh => ?_⟩
  · rw [rOf_set hr]
    by_cases e : r' = r
    · subst e; simpa using hlt
    · simpa [e] using hlt
  · rw [rOf_set hr] at hx
    by_cases e : r' = r
    · subst e
      simp only [if_true] at hx
      by_cases e2 : i' = i
      · subst e2
        obtain ⟨x0, h1, h2⟩ := he k x (by simpa [getC, hi] using hx) hh
        exact ⟨x0, h1, h2, rfl⟩
      · exact ⟨x, by simpa [getC, List.getElem?_set_ne (fun e => e2 e.symm)] using hx, hh, rfl⟩
    · exact ⟨x, by simpa [e] using hx, hh, rfl⟩
theorem Refs.refl (w : World) (R : Nat → List Cell) (RV : Nat → Nat → Value) : Refs w w R R RV RV := ⟨fun _ _ h => ⟨h, rfl⟩, fun _ _ _ x _ hx hh => ⟨x, hx, hh, rfl⟩⟩
theorem Refs.trans {w w1 w2 : World} {R R1 R2 : Nat → List Cell} {RV RV1 RV2 : Nat → Nat → Value} (h : Refs w w1 R R1 RV RV1) (k : Refs w1 w2 R1 R2 RV1 RV2) : Refs w w2 R R2 RV RV2 :=
  ⟨fun r i hlt => ⟨(k.len r i (h.len r i hlt).1).1, (k.len r i (h.len r i hlt).1).2.trans (h.len r i hlt).2⟩, fun r i j x hlt hx hh => by
    obtain ⟨x1, h1, h2, h3⟩ := k.elem r i j x (h.len r i hlt).1 hx hh
    obtain ⟨x0, h4, h5, h6⟩ := h.elem r i j x1 hlt h1 h2
    rw [(h.len r i hlt).2] at h3
    exact ⟨x0, h4, h5, h3.trans h6⟩⟩

/-- A named tree is exchanged: what it says of memory stays so, memory stays. -/
theorem At.exch (h : At E w0 B Z0 gv s a w Z RV L) {r i : Nat} (hr : r < s.length) (hi : i < (rOf s r).length) {y : Cell} {l : List Nat}
    (hy : RC w Z (rOf s) RV y (RV r i) l) (hl : ∀ b, b ∈ l → b ∈ L r i) (hln : l.Nodup)
    (he : ∀ k x, getC [y] 0 (some k) = some x → isHdr x = true → ∃ x0, getC (rOf s r) i (some k) = some x0 ∧ isHdr x0 = true) :
    At E w0 B Z0 gv (s.set r ⟨sOf s r, (rOf s r).set i y⟩) a w Z RV (upd2 L r i l) := by
  have hrf : Refs w w (rOf s) (fun j => if j = r then (rOf s r).set i y else rOf s j) RV RV := by
    refine ⟨fun r' i' hlt => ⟨?_, rfl⟩, fun r' i' k x hlt hx hh => ?_⟩
    · by_cases e : r' = r
      · subst e; simpa using hlt
      · simpa [e] using hlt
    · by_cases e : r' = r
      · subst e
        simp only [if_true] at hx
        by_cases e2 : i' = i
        · subst e2
          obtain ⟨x0, h1, h2⟩ := he k x (by simpa [getC, hi] using hx) hh
          exact ⟨x0, h1, h2, rfl⟩
        · exact ⟨x, by simpa [getC, List.getElem?_set_ne (fun e => e2 e.symm)] using hx, hh, rfl⟩
      · exact ⟨x, by simpa [e] using hx, hh, rfl⟩
  refine h.names hr (D := fun _ => False) rfl (Ext.refl _ w) (by simp) (fun _ h => h) (fun _ h => .inl h) hrf ?_ ?_ ?_ ?_ ?_ fun r' i' hi' => h.inv.one r' i' ?_
  rotate_right
  · by_cases e : r' = r
    · subst e; simpa using hi'
    · simpa [e] using hi'
  · intro r' i' x hx
    by_cases e : (r', i') = (r, i)
    · obtain ⟨rfl, rfl⟩ := Prod.mk.inj e
      simp [hi] at hx
      subst hx
      rw [upd2_same]
      exact .inr (hy.mono (fun _ h => h) (fun _ _ => rfl) hrf fun _ _ => rfl)
    · refine .inl ⟨?_, by rw [upd2_ne _ _ e], by simp⟩
      by_cases e1 : r' = r
      · subst e1
        simp only [if_true] at hx
        rwa [List.getElem?_set_ne (fun e2 => e (by rw [e2]))] at hx
      · simpa [e1] using hx
  · intro r' i'
    by_cases e : (r', i') = (r, i)
    · obtain ⟨rfl, rfl⟩ := Prod.mk.inj e; rw [upd2_same]; exact hln
    · rw [upd2_ne _ _ e]; exact h.inv.nodup _ _
  · have hsub : ∀ r' i' b, b ∈ upd2 L r i l r' i' → b ∈ L r' i' := fun r' i' b hb => by
      by_cases e : (r', i') = (r, i)
      · obtain ⟨rfl, rfl⟩ := Prod.mk.inj e; rw [upd2_same] at hb; exact hl b hb
      · rw [upd2_ne _ _ e] at hb; exact hb
    exact fun r1 i1 r2 i2 hne b h1 h2 => h.inv.sep r1 i1 r2 i2 hne b (hsub _ _ _ h1) (hsub _ _ _ h2)
  · intro r' i' b hb
    refine h.inv.own r' i' b ?_
    by_cases e : (r', i') = (r, i)
    · obtain ⟨rfl, rfl⟩ := Prod.mk.inj e; rw [upd2_same] at hb; exact hl b hb
    · rw [upd2_ne _ _ e] at hb; exact hb
  · intro r' i' hx
    by_cases e : (r', i') = (r, i)
    · obtain ⟨rfl, rfl⟩ := Prod.mk.inj e
      simp [hi] at hx
    · rw [upd2_ne _ _ e]
      refine h.inv.out r' i' ?_
      by_cases e1 : r' = r
      · subst e1
        simp only [if_true] at hx
        rwa [List.getElem?_set_ne (fun e2 => e (by rw [e2]))] at hx
      · simpa [e1] using hx

theorem setP_eq {r i : Nat} {k : Option Nat} {y : Cell} {m : AM α} {r0 : List Nat} (hw : wp C (setP r i y k m) s r0 t K) :
    r < s.length ∧ ∃ r1 t1, wp C m (s.set r ⟨sOf s r, setC (rOf s r) i y k⟩) r1 t1 K := by
  simp only [setP, wp_get, wp_putR] at hw
  obtain ⟨e, he, _, hw⟩ := hw
  have h2 : rOf s r = e.r := by simp [rOf, he]
  rw [← h2] at hw
  exact ⟨(List.getElem?_eq_some_iff.1 he).1, _, _, hw⟩

/-- A tree is taken out of its place. -/
theorem At.take (h : At E w0 B Z0 gv s a w Z RV L) {r i : Nat} {k : Option Nat} (hr : r < s.length) {x : Cell} (hx : getC (rOf s r) i k = some x)
    (hok : okAt k x = true) : ∃ V l L', At E w0 B Z0 gv (s.set r ⟨sOf s r, setC (rOf s r) i .hole k⟩) a w Z RV L' ∧
      Refs w w (rOf s) (rOf (s.set r ⟨sOf s r, setC (rOf s r) i .hole k⟩)) RV RV ∧ Taken L L' l ∧
      (∀ b, b ∈ l → b ∈ L r i) ∧
      ((k = none ∧ V = RV r i ∧ RC w Z (rOf s) RV x V l ∧ l = L r i ∧ L' = upd2 L r i []) ∨
       ((∃ j, k = some j ∧ elemV w (RV r i) j = some V) ∧ Ow w noZ x V l)) := by
  cases k with
  | none =>
    simp only [getC] at hx
    have hi := (List.getElem?_eq_some_iff.1 hx).1
    refine ⟨RV r i, L r i, upd2 L r i [], h.exch hr hi (Ow.hole Z _) (by simp) .nil (fun k x hk => by simp [getC] at hk), exch_refs hr hi (fun k x hk => by simp [getC] at hk), ⟨fun r' i' b hb => ?_, h.inv.nodup r i, fun b hb => ⟨r, i, hb⟩, fun b hb r' i' hb' => ?_⟩,
      fun b hb => hb, .inl ⟨rfl, rfl, h.inv.root r i x hx, rfl, rfl⟩⟩
    · by_cases e : (r', i') = (r, i)
      · obtain ⟨rfl, rfl⟩ := Prod.mk.inj e; rw [upd2_same] at hb; simp at hb
      · rw [upd2_ne _ _ e] at hb; exact hb
    · by_cases e : (r', i') = (r, i)
      · obtain ⟨rfl, rfl⟩ := Prod.mk.inj e; rw [upd2_same] at hb'; simp at hb'
      · rw [upd2_ne _ _ e] at hb'; exact h.inv.sep r i r' i' (fun e' => e e'.symm) b hb hb'
  | some j =>
    simp only [getC] at hx
    split at hx
    · rename_i sz n cs hroot
      have hi := (List.getElem?_eq_some_iff.1 hroot).1
      have hrc := h.inv.root r i _ hroot
      simp only [RC] at hrc
      obtain ⟨b, cap, cur, e, l', e1, e2, h3, h4, h5, h6, h7, h8⟩ := hrc.sl_at hx
      obtain ⟨u, l1, lx, l2, hu, hl', hox, hset⟩ := h8.split hx
      have hset' := hset w noZ (fun _ h => h) (fun _ h => h.elim) (fun _ _ => rfl) .hole u [] (.hole _ _)
      have hvs : (cur.toList.take (n * sz)).set j u = cur.toList.take (n * sz) := by
        refine List.ext_getElem? fun m => ?_
        by_cases hm : j = m
        · subst hm
          rw [List.getElem?_set]
          have := (List.getElem?_eq_some_iff.1 hu).1
          simp only [if_true, this]
          exact hu.symm
        · rw [List.getElem?_set_ne hm]
      rw [hvs] at hset'
      have hnd := h.inv.nodup r i
      rw [e2, hl'] at hnd
      have hmem : ∀ x, x ∈ b :: (l1 ++ [] ++ l2) → x ∈ L r i := fun x hx => by rw [e2, hl']; simp at hx ⊢; rcases hx with hx | hx | hx <;> simp [hx]
      have hnd' : (b :: (l1 ++ [] ++ l2)).Nodup := by
        refine hnd.sublist ?_
        simp
      have hel : ∀ k x0, getC [.sl false sz n (cs.set j .hole)] 0 (some k) = some x0 → isHdr x0 = true → ∃ x0, getC (rOf s r) i (some k) = some x0 ∧ isHdr x0 = true := fun k x0 hk hh => by
        simp only [getC, List.getElem?_cons_zero] at hk
        simp only [getC, hroot]
        by_cases hjk : j = k
        · subst hjk
          exact ⟨x, hx, by cases x <;> simp_all [okAt, isHdr]⟩
        · rw [List.getElem?_set_ne hjk] at hk
          exact ⟨x0, hk, hh⟩
      have hex := h.exch hr hi (y := .sl false sz n (cs.set j .hole)) (l := b :: (l1 ++ [] ++ l2))
        (by rw [e1]; exact Ow.sl h3 (by simpa using h4) h5 h6 h7 rfl hset') hmem hnd' hel
      have hcell : elemV w (RV r i) j = some u := by
        rw [e1]
        simp only [elemV, addrOf, Option.bind_some, add_off, cell_at h3]
        have h9 := List.getElem?_take (l := cur.toList) (i := n * sz) (j := j)
        rw [hu] at h9
        split at h9
        · exact h9.symm
        · simp at h9
      refine ⟨u, lx, _, by simp only [setC, hroot]; exact hex, by simp only [setC, hroot]; exact exch_refs hr hi hel, ⟨fun r' i' x hx' => ?_, ?_, fun x hx' => ⟨r, i, by rw [e2, hl']; simp [hx']⟩, fun x hx' r' i' hb' => ?_⟩, fun x hx' => by rw [e2, hl']; simp [hx'], .inr ⟨⟨j, rfl, hcell⟩, hox⟩⟩
      · by_cases e : (r', i') = (r, i)
        · obtain ⟨rfl, rfl⟩ := Prod.mk.inj e; rw [upd2_same] at hx'; exact hmem x hx'
        · rw [upd2_ne _ _ e] at hx'; exact hx'
      · exact hnd.sublist (by simp only [List.append_assoc]; exact (List.sublist_append_left _ _).trans ((List.sublist_append_right _ _).trans (List.sublist_cons_self _ _)))
      · by_cases e : (r', i') = (r, i)
        · obtain ⟨rfl, rfl⟩ := Prod.mk.inj e
          rw [upd2_same] at hb'
          rw [List.nodup_cons] at hnd
          simp at hb'
          have h1 := hnd.2
          rw [List.append_assoc, List.nodup_append] at h1
          have h2 := List.nodup_append.1 h1.2.1
          rcases hb' with rfl | hb' | hb'
          · exact hnd.1 (by simp [hx'])
          · exact h1.2.2 x hb' x (by simp [hx']) rfl
          · exact h2.2.2 x hx' x hb' rfl
        · rw [upd2_ne _ _ e] at hb'
          exact h.inv.sep r i r' i' (fun e' => e e'.symm) x (by rw [e2, hl']; simp [hx']) hb'
    · simp at hx

theorem sOf_names {s : List Ent} {r : Nat} (hr : r < s.length) (X : List Cell) : sOf (s.set r ⟨sOf s r, X⟩) = sOf s := by
  funext j
  rw [sOf_set hr]
  split
  · rename_i e; rw [e]
  · rfl

theorem pk_sound : ∀ (n : Nat),
    (∀ {s : List Ent} {L : Nat → Nat → List Nat} {x : Cell} {V : Value} {k : Cell → AM α} {r t : List Nat}, At E w0 B Z0 gv s a w Z RV L → SCell w Z (rOf s) RV x V → wp C (pkC n x k) s r t K →
      ∃ y l s' L' r' t', At E w0 B Z0 gv s' a w Z RV L' ∧ sOf s' = sOf s ∧ Refs w w (rOf s) (rOf s') RV RV ∧ Taken L L' l ∧ Ow w Z y V l ∧ wp C (k y) s' r' t' K) ∧
    (∀ {s : List Ent} {L : Nat → Nat → List Nat} {xs : List Cell} {vs : List Value} {k : List Cell → AM α} {r t : List Nat}, At E w0 B Z0 gv s a w Z RV L → SCells w Z (rOf s) RV xs vs → wp C (pkL n xs k) s r t K →
      ∃ ys l s' L' r' t', At E w0 B Z0 gv s' a w Z RV L' ∧ sOf s' = sOf s ∧ Refs w w (rOf s) (rOf s') RV RV ∧ Taken L L' l ∧ Ows w Z ys vs l ∧ wp C (k ys) s' r' t' K)
  | 0 => ⟨fun _ _ hw => by simp [pkC, wp] at hw, fun _ _ hw => by simp [pkL, wp] at hw⟩
  | n + 1 => by
    obtain ⟨ih1, ih2⟩ := pk_sound n
    refine ⟨fun {s L x V k r t} h hc hw => ?_, fun {s L xs vs k r t} h hc hw => ?_⟩
    · cases x with
      | hd rr i kk =>
        simp only [pkC] at hw
        obtain ⟨y, r', hlt, hx, hok, hw2⟩ := atP_sound hw
        clear hw
        have hnv := name_value h hc hx hok
        obtain ⟨U, l, L', hat, hrf, htk, -, hcase⟩ := h.take hlt hx hok
        have hV : (kk = none ∧ V = U ∧ RC w Z (rOf s) RV y V l) ∨ (kk ≠ none ∧ Ow w noZ y V l) := by
          rcases hcase with ⟨h1, h2, h3, -⟩ | ⟨⟨j, h1, h2⟩, h3⟩
          · subst h1
            rcases hnv with ⟨-, h4, -⟩ | ⟨h4, -⟩
            · exact .inl ⟨rfl, by rw [h4, h2], by rw [h4, ← h2]; exact h3⟩
            · exact absurd rfl h4
          · subst h1
            refine .inr ⟨by simp, ?_⟩
            have hh : isHdr y = true := by cases y <;> simp_all [okAt, isHdr]
            cases hc with
            | sh hx => cases hx
            | hde hlt' hv =>
              have := hv y hx hh
              rw [h2] at this
              obtain rfl := Option.some.inj this
              exact h3
        cases y with
        | sl =>
          obtain ⟨-, r1, t1, hw⟩ := setP_eq hw2
          refine ⟨_, l, _, L', r1, t1, hat, sOf_names hlt _, hrf, htk, ?_, hw⟩
          rcases hV with ⟨-, -, h3⟩ | ⟨-, h3⟩
          · exact h3
          · exact h3.zmono fun _ h => h.elim
        | mp =>
          obtain ⟨-, r1, t1, hw⟩ := setP_eq hw2
          refine ⟨_, l, _, L', r1, t1, hat, sOf_names hlt _, hrf, htk, ?_, hw⟩
          rcases hV with ⟨-, -, h3⟩ | ⟨-, h3⟩
          · exact h3
          · exact h3.zmono fun _ h => h.elim
        | shd z =>
          rcases hV with ⟨-, -, h3⟩ | ⟨h4, -⟩
          · exact ⟨_, [], s, L, _, _, h, rfl, Refs.refl .., Taken.nil L, .shd (Ow.shd_inv h3).2, hw2⟩
          · cases kk <;> simp_all [okAt]
        | ptr ys =>
          obtain ⟨-, r1, t1, hw⟩ := setP_eq hw2
          rcases hV with ⟨-, -, b, cur, e, e1, e2, h3, h4⟩ | ⟨h4, -⟩
          · obtain ⟨zs, l2, s2, L2, r2, t2, g1, g2, g3, g4, g5, g6⟩ := ih2 hat (h4.mono (fun _ h => h) (fun _ _ => rfl) hrf) hw
            refine ⟨_, _, s2, L2, r2, t2, g1, g2.trans (sOf_names hlt _), hrf.trans g3, htk.append g4, ?_, g6⟩
            rw [e1, e2]
            exact .ptr h3 g5
          · cases kk <;> simp_all [okAt]
        | _ => exact hw2.elim
      | fn f caps =>
        simp only [pkC] at hw
        have hc' : ∃ vs, V = .func f #[] vs.toArray ∧ SCells w Z (rOf s) RV caps vs := by
          cases hc with
          | sh hx => cases hx with | fn hx => exact ⟨_, rfl, .of_shs hx⟩
          | fn hc => exact ⟨_, rfl, hc⟩
        obtain ⟨vs, rfl, hcs⟩ := hc'
        obtain ⟨zs, l, s', L', r', t', g1, g2, g3, g4, g5, g6⟩ := ih2 h hcs hw
        exact ⟨_, l, s', L', r', t', g1, g2, g3, g4, .fn g5, g6⟩
      | c v => obtain rfl := scell_c hc; exact ⟨_, [], s, L, r, t, h, rfl, Refs.refl .., Taken.nil L, .c _ _, hw⟩
      | hole => exact ⟨_, [], s, L, r, t, h, rfl, Refs.refl .., Taken.nil L, .hole _ _, hw⟩
      | ad => exact hw.elim
      | shd => exact hw.elim
      | sl => exact ⟨_, [], s, L, r, t, h, rfl, Refs.refl .., Taken.nil L, .shd (scell_sl hc), hw⟩
      | mp => exact ⟨_, [], s, L, r, t, h, rfl, Refs.refl .., Taken.nil L, .shd (scell_mp hc), hw⟩
      | ptr => exact ⟨_, [], s, L, r, t, h, rfl, Refs.refl .., Taken.nil L, .shd (scell_ptr hc), hw⟩
    · cases hc with
      | nil => exact ⟨[], [], s, L, r, t, h, rfl, Refs.refl .., Taken.nil L, .nil _, hw⟩
      | cons hc ht =>
        simp only [pkL] at hw
        obtain ⟨y, l1, s1, L1, r1, t1, g1, g2, g3, g4, g5, g6⟩ := ih1 h hc hw
        obtain ⟨ys, l2, s2, L2, r2, t2, k1, k2, k3, k4, k5, k6⟩ := ih2 g1 (ht.mono (fun _ h => h) (fun _ _ => rfl) g3) g6
        exact ⟨_, _, s2, L2, r2, t2, k1, k2.trans g2, g3.trans k3, g4.append k4, .cons g5 k5, k6⟩
end
end Go.Den

/- New names; the world moves on. -/
namespace Go.Den

/-- What is opened under the name d from place n on: slots' cells, values, blocks. -/
structure Opened (w : World) (Z : Nat → Prop) (d n : Nat) (rs : List Cell) (l : List Nat) (vs : List Value) (ls : List (List Nat)) : Prop where
  vl : vs.length = rs.length
  ll : ls.length = rs.length
  fl : ls.flatten = l
  one : ∀ j, j < rs.length → HdrV (vs.getD j undef)
  rc : ∀ (R : Nat → List Cell) (RV : Nat → Nat → Value), (∀ j y, rs[j]? = some y → (R d)[n + j]? = some y ∧ RV d (n + j) = vs.getD j undef) →
    ∀ j y, rs[j]? = some y → RC w Z R RV y (vs.getD j undef) (ls.getD j [])
def Fits (d n : Nat) (rs : List Cell) (vs : List Value) (R : Nat → List Cell) (RV : Nat → Nat → Value) : Prop :=
  ∀ j y, rs[j]? = some y → (R d)[n + j]? = some y ∧ RV d (n + j) = vs.getD j undef

theorem Opened.nil (w : World) (Z : Nat → Prop) (d n : Nat) : Opened w Z d n [] [] [] [] := ⟨rfl, rfl, rfl, fun _ h => by simp at h, fun _ _ _ j y h => by simp at h⟩
theorem Opened.append {w : World} {Z : Nat → Prop} {d n : Nat} {rs rs' : List Cell} {l l' : List Nat} {vs vs' : List Value} {ls ls' : List (List Nat)}
    (h : Opened w Z d n rs l vs ls) (k : Opened w Z d (n + rs.length) rs' l' vs' ls') : Opened w Z d n (rs ++ rs') (l ++ l') (vs ++ vs') (ls ++ ls') := by
  refine ⟨by simp [h.vl, k.vl], by simp [h.ll, k.ll], by simp [h.fl, k.fl], fun j hj => ?_, fun R RV hf j y hj => ?_⟩
  · by_cases hlt : j < rs.length
    · rw [List.getD_eq_getElem?_getD, List.getElem?_append_left (by rw [h.vl]; exact hlt), ← List.getD_eq_getElem?_getD]; exact h.one j hlt
    · rw [List.getD_eq_getElem?_getD, List.getElem?_append_right (by rw [h.vl]; omega), ← List.getD_eq_getElem?_getD, h.vl]; exact k.one _ (by simp at hj; omega)
  by_cases hlt : j < rs.length
  · rw [List.getElem?_append_left hlt] at hj
    have := h.rc R RV (fun j y hj => by
      have hl := (List.getElem?_eq_some_iff.1 hj).1
      have := hf j y (by rw [List.getElem?_append_left hl]; exact hj)
      rw [List.getD_eq_getElem?_getD, List.getElem?_append_left (by rw [h.vl]; exact hl), ← List.getD_eq_getElem?_getD] at this
      exact this) j y hj
    rw [List.getD_eq_getElem?_getD, List.getElem?_append_left (by rw [h.vl]; exact hlt), List.getD_eq_getElem?_getD, List.getElem?_append_left (by rw [h.ll]; exact hlt), ← List.getD_eq_getElem?_getD, ← List.getD_eq_getElem?_getD]
    exact this
  · have hge := Nat.le_of_not_lt hlt
    rw [List.getElem?_append_right hge] at hj
    have := k.rc R RV (fun j y hj => by
      have := hf (rs.length + j) y (by rw [List.getElem?_append_right (by omega)]; simpa using hj)
      rw [List.getD_eq_getElem?_getD, List.getElem?_append_right (by rw [h.vl]; omega), ← List.getD_eq_getElem?_getD, h.vl] at this
      simpa [Nat.add_assoc] using this) (j - rs.length) y hj
    rw [List.getD_eq_getElem?_getD, List.getElem?_append_right (by rw [h.vl]; exact hge), List.getD_eq_getElem?_getD, List.getElem?_append_right (by rw [h.ll]; exact hge), h.vl, h.ll, ← List.getD_eq_getElem?_getD, ← List.getD_eq_getElem?_getD]
    exact this
theorem Fits.left {d n : Nat} {rs rs' : List Cell} {vs vs' : List Value} {R : Nat → List Cell} {RV : Nat → Nat → Value} (hl : vs.length = rs.length)
    (h : Fits d n (rs ++ rs') (vs ++ vs') R RV) : Fits d n rs vs R RV := fun j y hj => by
  have hlt := (List.getElem?_eq_some_iff.1 hj).1
  have := h j y (by rw [List.getElem?_append_left hlt]; exact hj)
  rw [List.getD_eq_getElem?_getD, List.getElem?_append_left (by rw [hl]; exact hlt), ← List.getD_eq_getElem?_getD] at this
  exact this
theorem Fits.right {d n : Nat} {rs rs' : List Cell} {vs vs' : List Value} {R : Nat → List Cell} {RV : Nat → Nat → Value} (hl : vs.length = rs.length)
    (h : Fits d n (rs ++ rs') (vs ++ vs') R RV) : Fits d (n + rs.length) rs' vs' R RV := fun j y hj => by
  have := h (rs.length + j) y (by rw [List.getElem?_append_right (by omega)]; simpa using hj)
  rw [List.getD_eq_getElem?_getD, List.getElem?_append_right (by rw [hl]; omega), ← List.getD_eq_getElem?_getD, hl] at this
  simpa [Nat.add_assoc] using this

theorem opened_one {w : World} {Z : Nat → Prop} {d n : Nat} {x : Cell} {v : Value} {l : List Nat} (h : Ow w Z x v l) (hp : ∀ ys, x ≠ .ptr ys) (h1 : HdrV v) : Opened w Z d n [x] l [v] [l] := by
  refine ⟨rfl, rfl, by simp, fun j hj => by simp at hj; subst hj; exact h1, fun R RV _ j y hj => ?_⟩
  cases j with
  | zero =>
    simp at hj
    subst hj
    cases x <;> first | exact h | exact absurd rfl (hp _)
  | succ j => simp at hj
theorem fits_hd {d n : Nat} {x : Cell} {v : Value} {rs : List Cell} {vs : List Value} {R : Nat → List Cell} {RV : Nat → Nat → Value} (h : Fits d n (x :: rs) (v :: vs) R RV) {w : World} {Z : Nat → Prop} :
    SCell w Z R RV (.hd d n none) v := by
  have := h 0 x rfl
  simp at this
  rw [← this.2]
  exact .hd (List.getElem?_eq_some_iff.1 this.1).1

mutual
theorem open_sound {w : World} : ∀ {Z : Nat → Prop} {x : Cell} {v : Value} {l : List Nat}, Ow w Z x v l → ∀ (d n : Nat),
    ∃ vs ls, Opened w Z d n (openC d n x).2 l vs ls ∧ ∀ R RV, Fits d n (openC d n x).2 vs R RV → SCell w Z R RV (openC d n x).1 v
  | _, _, _, _, .c _ v, d, n => ⟨[], [], Opened.nil .., fun _ _ _ => .c v⟩
  | _, _, _, _, .hole _ v, d, n => ⟨[], [], Opened.nil .., fun _ _ _ => .hole v⟩
  | _, _, _, _, .shd h, d, n => ⟨[], [], Opened.nil .., fun _ _ _ => .sh h⟩
  | _, _, _, _, .sl h1 h2 h3 h4 h5 h6 h7, d, n => ⟨_, _, opened_one (.sl h1 h2 h3 h4 h5 h6 h7) (by simp) (hdr_slice ..), fun _ _ hf => fits_hd hf⟩
  | _, _, _, _, .sls h1 h2 h3 h4 h5 h6 h7, d, n => ⟨_, _, opened_one (.sls h1 h2 h3 h4 h5 h6 h7) (by simp) (hdr_slice ..), fun _ _ hf => fits_hd hf⟩
  | _, _, _, _, .nil _ es sz, d, n => ⟨_, _, opened_one (.nil _ es sz) (by simp) (hdr_nil ..), fun _ _ hf => fits_hd hf⟩
  | _, _, _, _, .mp h1 h2 h3, d, n => ⟨_, _, opened_one (.mp h1 h2 h3) (by simp) (hdr_map ..), fun _ _ hf => fits_hd hf⟩
  | _, _, _, _, .mps h1 h2 h3, d, n => ⟨_, _, opened_one (.mps h1 h2 h3) (by simp) (hdr_map ..), fun _ _ hf => fits_hd hf⟩
  | _, _, _, _, .ptr (b := b) (cs := cs) h1 h2, d, n => by
    obtain ⟨vs, ls, ho, hs⟩ := opens_sound h2 d (n + 1)
    refine ⟨.pointer (some ⟨b, 0, none⟩) :: vs, [b] :: ls, ⟨by simp [openC, ho.vl], by simp [openC, ho.ll], by simp [ho.fl], fun j hj => ?_, fun R RV hf j y hj => ?_⟩, fun R RV hf => fits_hd hf⟩
    · cases j with
      | zero => exact hdr_ptr b
      | succ j => simpa using ho.one j (by simpa [openC] using hj)
    have hf' : Fits d (n + 1) (openL d (n + 1) cs).2 vs R RV := fun j y hj => by
      have := hf (j + 1) y (by simpa [openC] using hj)
      simpa [Nat.add_assoc, Nat.add_comm 1 j] using this
    cases j with
    | zero =>
      simp [openC] at hj
      subst hj
      exact ⟨b, _, _, rfl, rfl, h1, hs R RV hf'⟩
    | succ j =>
      have := ho.rc R RV hf' j y (by simpa [openC] using hj)
      simpa using this
  | _, _, _, _, .fn (caps := caps) h, d, n => by
    obtain ⟨vs, ls, ho, hs⟩ := opens_sound h d n
    exact ⟨vs, ls, ho, fun R RV hf => .fn (hs R RV hf)⟩
theorem opens_sound {w : World} : ∀ {Z : Nat → Prop} {xs : List Cell} {us : List Value} {l : List Nat}, Ows w Z xs us l → ∀ (d n : Nat),
    ∃ vs ls, Opened w Z d n (openL d n xs).2 l vs ls ∧ ∀ R RV, Fits d n (openL d n xs).2 vs R RV → SCells w Z R RV (openL d n xs).1 us
  | _, _, _, _, .nil _, d, n => ⟨[], [], Opened.nil .., fun _ _ _ => .nil⟩
  | _, _, _, _, .cons h t, d, n => by
    obtain ⟨vs, ls, ho, hs⟩ := open_sound h d n
    obtain ⟨vs', ls', ho', hs'⟩ := opens_sound t d (n + (openC d n _).2.length)
    exact ⟨vs ++ vs', ls ++ ls', ho.append ho', fun R RV hf => .cons (hs R RV (hf.left ho.vl)) (hs' R RV (hf.right ho.vl))⟩
end
theorem openT_sound {w : World} {Z : Nat → Prop} : ∀ {ts : List (Bool × List Cell)} {us : List Value} {l : List Nat}, OwTup w Z ts us l → ∀ (d n : Nat),
    ∃ vs ls, Opened w Z d n (openT d n ts).2 l vs ls ∧ ∀ R RV, Fits d n (openT d n ts).2 vs R RV → STup w Z R RV (openT d n ts).1 us
  | [], [], _, h, d, n => by cases h; exact ⟨[], [], Opened.nil .., fun _ _ _ => trivial⟩
  | (true, xs) :: ts, v :: us, l, h, d, n => by
    obtain ⟨ws, l1, l2, h1, h2, h3, h4⟩ := h
    subst h4
    obtain ⟨vs, ls, ho, hs⟩ := opens_sound h2 d n
    obtain ⟨vs', ls', ho', hs'⟩ := openT_sound h3 d (n + (openL d n xs).2.length)
    exact ⟨vs ++ vs', ls ++ ls', ho.append ho', fun R RV hf => ⟨⟨ws, h1, hs R RV (hf.left ho.vl)⟩, hs' R RV (hf.right ho.vl)⟩⟩
  | (false, xs) :: ts, v :: us, l, h, d, n => by
    obtain ⟨x, l1, l2, h1, h2, h3, h4⟩ := h
    subst h4 h1
    obtain ⟨vs, ls, ho, hs⟩ := opens_sound (Ows.cons h2 (.nil Z)) d n
    obtain ⟨vs', ls', ho', hs'⟩ := openT_sound h3 d (n + (openL d n [x]).2.length)
    refine ⟨vs ++ vs', ls ++ ls', by have h5 := ho.append ho'; rw [List.append_nil] at h5; exact h5, fun R RV hf => ⟨?_, hs' R RV (hf.right ho.vl)⟩⟩
    have := hs R RV (hf.left ho.vl)
    cases this with
    | cons h t => cases t; exact ⟨_, rfl, h⟩
  | [], _ :: _, _, h, _, _ => h.elim
  | (true, _) :: _, [], _, h, _, _ => h.elim
  | (false, _) :: _, [], _, h, _, _ => h.elim
theorem openSV_sound {w : World} {Z : Nat → Prop} {v : SV} {V : Value} {l : List Nat} (h : OwSV w Z v V l) (d n : Nat) :
    ∃ vs ls, Opened w Z d n (openSV d n v).2 l vs ls ∧ ∀ R RV, Fits d n (openSV d n v).2 vs R RV → Slot w Z R RV (openSV d n v).1 V := by
  cases v with
  | dead => cases h; exact ⟨[], [], Opened.nil .., fun _ _ _ => trivial⟩
  | one x => exact open_sound h d n
  | agg xs =>
    obtain ⟨us, h1, h2⟩ := h
    obtain ⟨vs, ls, ho, hs⟩ := opens_sound h2 d n
    exact ⟨vs, ls, ho, fun R RV hf => ⟨us, h1, hs R RV hf⟩⟩
  | tup ts =>
    obtain ⟨us, h1, h2⟩ := h
    obtain ⟨vs, ls, ho, hs⟩ := openT_sound h2 d n
    exact ⟨vs, ls, ho, fun R RV hf => ⟨us, h1, hs R RV hf⟩⟩

section
variable {E : Env} {w0 : World} {B Z0 : Nat → Prop} {gv : List Value} {s : List Ent} {a : Act} {w : World} {Z : Nat → Prop} {RV : Nat → Nat → Value}
  {L : Nat → Nat → List Nat}

/-- The world moves on; what is named stays. -/
theorem At.move (h : At E w0 B Z0 gv s a w Z RV L) {w' : World} {Z' : Nat → Prop} {D : Nat → Prop} (hx : Ext D w w')
    (hd : ∀ b, D b → ¬ Z b ∧ (B b ∨ w0.heap.size ≤ b) ∧ ∀ r i, b ∉ L r i) (hz : ∀ b, Z b → Z' b)
    (hz' : ∀ b, Z' b → Z b ∨ (b < w'.heap.size ∧ (B b ∨ w0.heap.size ≤ b) ∧ ∀ r i, b ∉ L r i)) : At E w0 B Z0 gv s a w' Z' RV L := by
  have hl : ∀ r i b, b ∈ L r i → w'.heap[b]? = w.heap[b]? := fun r i b hb => hx.keep b (h.inv.own r i b hb).2.1 fun hd' => (hd b hd').2.2 r i hb
  refine ⟨h.n, h.len, h.dfr, h.inv.step hx (fun b hb => ⟨(hd b hb).1, (hd b hb).2.1⟩) hz (fun b hb => (hz' b hb).imp id fun h => ⟨h.1, h.2.1⟩) ⟨fun r i hlt => ⟨hlt, rfl⟩, fun r i k x hlt hk hh => ⟨x, hk, hh, ?_⟩⟩
    (fun r i x hx => .inl ⟨hx, rfl, fun b hb hd' => (hd b hd').2.2 r i hb⟩) h.inv.nodup h.inv.sep (fun r i b hb => ?_) h.inv.out h.inv.one⟩
  · simp only [getC] at hk
    split at hk
    · rename_i sz n cs hroot
      have hrc := h.inv.root r i _ hroot
      simp only [RC] at hrc
      obtain ⟨b, cap, cur, e, l', e1, e2, -⟩ := hrc.sl_at hk
      rw [e1]
      simp only [elemV, addrOf, Option.bind_some, add_off, World.cell?]
      rw [hl r i b (by rw [e2]; simp)]
    · cases hk
  · have := h.inv.own r i b hb
    refine ⟨fun hzb => ?_, Nat.lt_of_lt_of_le this.2.1 hx.size, this.2.2⟩
    rcases hz' b hzb with h1 | h1
    · exact this.1 h1
    · exact h1.2.2 r i hb

theorem flat_nodup : ∀ {ls : List (List Nat)}, ls.flatten.Nodup → (∀ i, (ls.getD i []).Nodup) ∧ ∀ i j b, i ≠ j → b ∈ ls.getD i [] → b ∉ ls.getD j []
  | [], _ => ⟨fun i => by simp, fun i j b _ h => by simp at h⟩
  | l :: ls, h => by
    rw [List.flatten_cons, List.nodup_append] at h
    obtain ⟨ih1, ih2⟩ := flat_nodup h.2.1
    have hm : ∀ i b, b ∈ ls.getD i [] → b ∈ ls.flatten := fun i b hb => by
      rw [List.getD_eq_getElem?_getD] at hb
      cases hi : ls[i]? with
      | none => simp [hi] at hb
      | some m => simp [hi] at hb; exact List.mem_flatten.2 ⟨m, List.mem_of_getElem? hi, hb⟩
    refine ⟨fun i => ?_, fun i j b hij h1 h2 => ?_⟩
    · cases i with
      | zero => simpa using h.1
      | succ i => simpa using ih1 i
    · cases i with
      | zero =>
        cases j with
        | zero => exact hij rfl
        | succ j => exact h.2.2 b (by simpa using h1) b (hm j b (by simpa using h2)) rfl
      | succ i =>
        cases j with
        | zero => exact h.2.2 b (by simpa using h2) b (hm i b (by simpa using h1)) rfl
        | succ j => exact ih2 i j b (fun e => hij (by rw [e])) (by simpa using h1) (by simpa using h2)
theorem flat_mem {ls : List (List Nat)} {i b : Nat} (h : b ∈ ls.getD i []) : b ∈ ls.flatten := by
  rw [List.getD_eq_getElem?_getD] at h
  cases hi : ls[i]? with
  | none => simp [hi] at h
  | some m => simp [hi] at h; exact List.mem_flatten.2 ⟨m, List.mem_of_getElem? hi, h⟩

/-- New names. -/
theorem At.openG (h : At E w0 B Z0 gv s a w Z RV L) {d : Nat} {e : Ent} (he : s[d]? = some e) (hr : e.r = []) {v : SV} {rs : List Cell} {V : Value} {l : List Nat} {vs : List Value} {ls : List (List Nat)}
    (hll : ls.length = rs.length) (hfl : ls.flatten = l) (hvo : ∀ j, j < rs.length → HdrV (vs.getD j undef))
    (hrc : ∀ R RV', Fits d 0 rs vs R RV' → Refs w w (rOf s) R RV RV' → ∀ j y, rs[j]? = some y → RC w Z R RV' y (vs.getD j undef) (ls.getD j []))
    (hs : ∀ R RV', Fits d 0 rs vs R RV' → Refs w w (rOf s) R RV RV' → Slot w Z R RV' v V) (hn : l.Nodup)
    (hl : ∀ b, b ∈ l → ¬ Z b ∧ b < w.heap.size ∧ (B b ∨ w0.heap.size ≤ b) ∧ ∀ r i, b ∉ L r i) :
    ∃ RV' L', At E w0 B Z0 gv (s.set d ⟨sOf s d, rs⟩) a w Z RV' L' ∧ Slot w Z (rOf (s.set d ⟨sOf s d, rs⟩)) RV' v V ∧ Refs w w (rOf s) (rOf (s.set d ⟨sOf s d, rs⟩)) RV RV' ∧ ∀ r i b, b ∈ L' r i → b ∈ L r i ∨ b ∈ l := by
  have hlt : d < s.length := (List.getElem?_eq_some_iff.1 he).1
  have hrd : rOf s d = [] := by simp [rOf, he, hr]
  let RV' : Nat → Nat → Value := fun r i => if r = d then vs.getD i undef else RV r i
  let L' : Nat → Nat → List Nat := fun r i => if r = d then ls.getD i [] else L r i
  have hRV : ∀ i, RV' d i = vs.getD i undef := fun i => by simp [RV']
  have hRVn : ∀ r i, r ≠ d → RV' r i = RV r i := fun r i h => by simp [RV', h]
  have hL : ∀ i, L' d i = ls.getD i [] := fun i => by simp [L']
  have hLn : ∀ r i, r ≠ d → L' r i = L r i := fun r i h => by simp [L', h]
  let R' : Nat → List Cell := fun j => if j = d then rs else rOf s j
  have hR' : R' d = rs := by simp [R']
  have hRn : ∀ r, r ≠ d → R' r = rOf s r := fun r h => by simp [R', h]
  have hrf : Refs w w (rOf s) R' RV RV' := by
    refine ⟨fun r i hi => ?_, fun r i k x hi hx hh => ?_⟩
    · have hne : r ≠ d := fun e => by subst e; simp [hrd] at hi
      rw [hRn r hne, hRVn r i hne]
      exact ⟨hi, rfl⟩
    · have hne : r ≠ d := fun e => by subst e; simp [hrd] at hi
      rw [hRn r hne] at hx
      exact ⟨x, hx, hh, rfl⟩
  have hfit : Fits d 0 rs vs R' RV' := fun j y hj => by rw [Nat.zero_add, hR', hRV]; exact ⟨hj, rfl⟩
  have hfd := flat_nodup (ls := ls) (by rw [hfl]; exact hn)
  have hat := h.names hlt (X := rs) (w' := w) (Z' := Z) (RV' := RV') (L' := L') (D := fun _ => False) (R' := R') rfl (Ext.refl _ w) (by simp) (fun _ h => h) (fun _ h => .inl h) hrf
    (fun r i x hx => ?_) (fun r i => ?_) (fun r i r' i' hne b h1 h2 => ?_) (fun r i b hb => ?_) (fun r i hx => ?_) (fun r i hi => ?_)
  · have hrr : rOf (s.set d ⟨sOf s d, rs⟩) = R' := by funext j; rw [rOf_set hlt]
    refine ⟨RV', L', hat, by rw [hrr]; exact hs R' RV' hfit hrf, by rw [hrr]; exact hrf, fun r i b hb => ?_⟩
    by_cases e : r = d
    · subst e; rw [hL] at hb; exact .inr (by rw [← hfl]; exact flat_mem hb)
    · rw [hLn r i e] at hb; exact .inl hb
  · by_cases e : r = d
    · subst e
      rw [hR'] at hx
      rw [hRV, hL]
      exact .inr (hrc R' RV' hfit hrf i x hx)
    · rw [hRn r e] at hx
      exact .inl ⟨hx, hLn r i e, by simp⟩
  · by_cases e : r = d
    · subst e; rw [hL]; exact hfd.1 i
    · rw [hLn r i e]; exact h.inv.nodup r i
  · by_cases e : r = d
    · subst e
      rw [hL] at h1
      by_cases e' : r' = r
      · subst e'
        rw [hL] at h2
        exact hfd.2 i i' b (fun e => hne (by rw [e])) h1 h2
      · rw [hLn r' i' e'] at h2
        exact (hl b (by rw [← hfl]; exact flat_mem h1)).2.2.2 r' i' h2
    · rw [hLn r i e] at h1
      by_cases e' : r' = d
      · subst e'
        rw [hL] at h2
        exact (hl b (by rw [← hfl]; exact flat_mem h2)).2.2.2 r i h1
      · rw [hLn r' i' e'] at h2
        exact h.inv.sep r i r' i' hne b h1 h2
  · by_cases e : r = d
    · subst e
      rw [hL] at hb
      have := hl b (by rw [← hfl]; exact flat_mem hb)
      exact ⟨this.1, this.2.1, this.2.2.1⟩
    · rw [hLn r i e] at hb
      exact h.inv.own r i b hb
  · by_cases e : r = d
    · subst e
      rw [hR'] at hx
      rw [hL, List.getD_eq_getElem?_getD, List.getElem?_eq_none (by rw [hll]; exact List.getElem?_eq_none_iff.1 hx)]
      rfl
    · rw [hRn r e] at hx
      rw [hLn r i e]
      exact h.inv.out r i hx
  · by_cases e : r = d
    · subst e; rw [hR'] at hi; rw [hRV]; exact hvo i hi
    · rw [hRn r e] at hi; rw [hRVn r i e]; exact h.inv.one r i hi
/-- New names, and a slot that holds them. -/
theorem At.open (h : At E w0 B Z0 gv s a w Z RV L) {d : Nat} {e : Ent} (he : s[d]? = some e) (hr : e.r = []) (hd : d < E.n) {v : SV} {rs : List Cell} {V : Value} {l : List Nat} {vs : List Value} {ls : List (List Nat)}
    (hll : ls.length = rs.length) (hfl : ls.flatten = l) (hvo : ∀ j, j < rs.length → HdrV (vs.getD j undef))
    (hrc : ∀ R RV', Fits d 0 rs vs R RV' → Refs w w (rOf s) R RV RV' → ∀ j y, rs[j]? = some y → RC w Z R RV' y (vs.getD j undef) (ls.getD j []))
    (hs : ∀ R RV', Fits d 0 rs vs R RV' → Refs w w (rOf s) R RV RV' → Slot w Z R RV' v V) (hn : l.Nodup)
    (hl : ∀ b, b ∈ l → ¬ Z b ∧ b < w.heap.size ∧ (B b ∨ w0.heap.size ≤ b) ∧ ∀ r i, b ∉ L r i) :
    ∃ RV' L', At E w0 B Z0 gv (s.set d ⟨v, rs⟩) (a.put (some d) V) w Z RV' L' := by
  have hlt : d < s.length := (List.getElem?_eq_some_iff.1 he).1
  obtain ⟨RV', L', hat, hsl, -, -⟩ := h.openG he hr hll hfl hvo hrc hs hn hl
  have hset : (s.set d ⟨sOf s d, rs⟩)[d]? = some ⟨sOf s d, rs⟩ := by simp [hlt]
  have := hat.put hset hd hsl
  exact ⟨RV', L', by simpa using this⟩
end
end Go.Den

/- Operations that make memory of their own. -/
namespace Go.Den

section
variable {E : Env} {w0 : World} {B Z0 : Nat → Prop} {gv : List Value} {s : List Ent} {a : Act} {w : World} {Z : Nat → Prop} {RV : Nat → Nat → Value}
  {L : Nat → Nat → List Nat} {C : FuncId → List Arg → Res → Prop} {r t : List Nat} {K : Unit → List Ent → List Nat → List Nat → Prop}

/-- Blocks that no name has yet. -/
def Free (w0 : World) (B : Nat → Prop) (w : World) (Z : Nat → Prop) (L : Nat → Nat → List Nat) (l : List Nat) : Prop :=
  ∀ b, b ∈ l → ¬ Z b ∧ b < w.heap.size ∧ (B b ∨ w0.heap.size ≤ b) ∧ ∀ r i, b ∉ L r i

theorem setR_sound {d : Option Tmp} {v : SV} (hw : wp C (setR d v) s r t K) (h : At E w0 B Z0 gv s a w Z RV L) (hd : d.getD 0 < E.n) {V : Value} {l : List Nat}
    (hv : OwSV w Z v V l) (hn : l.Nodup) (hl : Free w0 B w Z L l) : ∃ s' r' t' RV' L', K () s' r' t' ∧ At E w0 B Z0 gv s' (a.put d V) w Z RV' L' := by
  cases d with
  | none => exact ⟨s, r, t, RV, L, hw, h⟩
  | some d =>
    simp only [setR, wp_get] at hw
    obtain ⟨e, he, hw⟩ := hw
    split at hw
    · rename_i hr
      rw [wp_put] at hw
      obtain ⟨vs, ls, ho, hs⟩ := openSV_sound hv d 0
      obtain ⟨RV', L', h'⟩ := h.open he hr hd (v := (openSV d 0 v).1) (V := V) ho.ll ho.fl ho.one (fun R RV' hf _ => ho.rc R RV' hf) (fun R RV' hf _ => hs R RV' hf) hn hl
      exact ⟨_, _, _, RV', L', hw.2, h'⟩
    · exact hw.elim

/-- One new name. -/
theorem setN_sound {d : Option Tmp} {x : Cell} (hw : wp C (setN d (.one (.hd (d.getD 0) 0 none)) [x]) s r t K) (h : At E w0 B Z0 gv s a w Z RV L) (hd : d.getD 0 < E.n) {V : Value} {l : List Nat}
    (hx : ∀ R RV', Refs w w (rOf s) R RV RV' → RC w Z R RV' x V l) (h1 : HdrV V) (hn : l.Nodup) (hl : Free w0 B w Z L l) :
    ∃ s' r' t' RV' L', K () s' r' t' ∧ At E w0 B Z0 gv s' (a.put d V) w Z RV' L' := by
  cases d with
  | none => exact ⟨s, r, t, RV, L, hw, h⟩
  | some d =>
    simp only [setN, wp_get] at hw
    obtain ⟨e, he, hw⟩ := hw
    split at hw
    · rename_i hr
      rw [wp_put] at hw
      obtain ⟨RV', L', h'⟩ := h.open he hr hd (v := .one (.hd d 0 none)) (rs := [x]) (V := V) (vs := [V]) (ls := [l]) (l := l) rfl (by simp) (fun j hj => by simp at hj; subst hj; exact h1)
        (fun R RV' _ hrf j y hj => by
          cases j with
          | zero => simp at hj; subst hj; simpa using hx R RV' hrf
          | succ j => simp at hj) (fun R RV' hf _ => fits_hd hf) hn hl
      exact ⟨_, _, _, RV', L', hw.2, h'⟩
    · exact hw.elim

/-- A block that is made. -/
theorem At.alloc (h : At E w0 B Z0 gv s a w Z RV L) (o : Obj) : At E w0 B Z0 gv s a (w.alloc o) Z RV L ∧ Free w0 B (w.alloc o) Z L [w.heap.size] := by
  refine ⟨h.move (Ext.alloc (fun _ => False) w o) (by simp) (fun _ h => h) (fun _ h => .inl h), fun b hb => ?_⟩
  simp at hb
  subst hb
  exact ⟨fun hz => absurd (h.inv.zlt _ hz) (Nat.lt_irrefl _), by simp, .inr h.inv.ext.size, fun r i hb => absurd (h.inv.own r i _ hb).2.1 (Nat.lt_irrefl _)⟩
theorem heap_new (w : World) (o : Obj) : (w.alloc o).heap[w.heap.size]? = some o := by show (w.heap.push o)[w.heap.size]? = some o; simp
theorem At.drew (h : At E w0 B Z0 gv s a w Z RV L) : At E w0 B Z0 gv s a w.drew Z RV L :=
  h.move (Ext.drew (fun _ => False) w) (by simp) (fun _ h => h) (fun _ h => .inl h)
/-- Slots under new names. -/
theorem At.refs_alloc (h : At E w0 B Z0 gv s a w Z RV L) (o : Obj) : Refs w (w.alloc o) (rOf s) (rOf s) RV RV := by
  refine ⟨fun r i hi => ⟨hi, rfl⟩, fun r i k x hi hk hh => ⟨x, hk, hh, ?_⟩⟩
  simp only [getC] at hk
  split at hk
  · rename_i sz n cs hroot
    have hrc := h.inv.root r i _ hroot
    simp only [RC] at hrc
    obtain ⟨b, cap, cur, e, l', e1, e2, -⟩ := hrc.sl_at hk
    rw [e1]
    simp only [elemV, addrOf, Option.bind_some, add_off]
    exact World.cell?_alloc_lt w o _ (h.inv.own r i b (by rw [e2]; simp)).2.1
  · cases hk
theorem z_alloc (h : At E w0 B Z0 gv s a w Z RV L) (o : Obj) : ∀ b, Z b → (w.alloc o).heap[b]? = w.heap[b]? := fun b hb => by
  show (w.heap.push o)[b]? = _
  rw [Array.getElem?_push, if_neg (Nat.ne_of_lt (h.inv.zlt b hb))]
end

section
variable {P : Program} {E : Env} {o : Oper}
/-- What may be written is one cell. -/
theorem scell_one {w0 : World} {B Z0 : Nat → Prop} {gv : List Value} {s : List Ent} {a : Act} {w : World} {Z : Nat → Prop} {RV : Nat → Nat → Value} {L : Nat → Nat → List Nat}
    (h : At E w0 B Z0 gv s a w Z RV L) {x : Cell} {V : Value} (hx : SCell w Z (rOf s) RV x V) (hw : wrC x = true) : V.oneCell' = true := by
  cases hx with
  | c => exact hw
  | hole => simp [wrC] at hw
  | sh hx => cases hx <;> first | exact hw | rfl | simp [wrC] at hw
  | hd hi => exact (h.inv.one _ _ hi).1
  | hde => simp [wrC] at hw
  | ad => rfl
  | ade => simp [wrC] at hw
  | fn => rfl
theorem cells_one {V : Value} (h : V.oneCell' = true) : V.cells = #[V] := by cases V <;> first | rfl | simp [Value.oneCell'] at h
theorem slot_cells {w0 : World} {B Z0 : Nat → Prop} {gv : List Value} {s : List Ent} {a : Act} {w : World} {Z : Nat → Prop} {RV : Nat → Nat → Value} {L : Nat → Nat → List Nat}
    (h : At E w0 B Z0 gv s a w Z RV L) {v : SV} {V : Value} (hv : Slot w Z (rOf s) RV v V) (hok : (svCells v).all wrC = true) (hne : svOk v = true) :
    SCells w Z (rOf s) RV (svCells v) V.cells.toList := by
  cases v with
  | one x => rw [cells_one (scell_one h hv (by simpa [svCells] using hok))]; exact .cons hv .nil
  | agg xs => obtain ⟨us, rfl, h⟩ := hv; exact h
  | _ => simp [svOk] at hne
theorem cells_all {w0 : World} {B Z0 : Nat → Prop} {gv : List Value} {s : List Ent} {a : Act} {w : World} {Z : Nat → Prop} {RV : Nat → Nat → Value} {L : Nat → Nat → List Nat}
    (h : At E w0 B Z0 gv s a w Z RV L) : ∀ {xs : List Cell} {vs : List Value}, SCells w Z (rOf s) RV xs vs → xs.all wrC = true → ∀ v ∈ vs, v.oneCell' = true
  | _, _, .nil, _, v, hv => by simp at hv
  | _, _, .cons hx ht, hok, v, hv => by
    simp only [List.all_cons, Bool.and_eq_true] at hok
    simp only [List.mem_cons] at hv
    rcases hv with rfl | hv
    · exact scell_one h hx hok.1
    · exact cells_all h ht hok.2 v hv

theorem ok_alloc (hT : TabOK P E.T) {ty : TypeId} (ho : o.op = .alloc ty) : OpOK P E o := by
  intro w0 B Z0 gv s a w Z RV L r t K Q hd h hw
  simp only [astep, ho] at hw
  split at hw
  · rename_i d ht
    obtain ⟨hu, i, hi, hsz, hby, hz, -⟩ := hT _ _ ht
    have ha := h.alloc (.cells d.zero.cells ty)
    obtain ⟨s', r', t', RV', L', hk, h'⟩ := setN_sound hw ha.1 hd (V := .pointer (some ⟨w.heap.size, 0, none⟩)) (l := [w.heap.size])
      (fun R RV' hrf => ⟨_, d.zero.cells, ty, rfl, rfl, heap_new .., SCells.of_c _⟩) (hdr_ptr _) (by simp) ha.2
    exact wp_value (w' := w.alloc (.cells d.zero.cells ty)) (by simp [execOp, ho, Instr.alloc, zeroValue, typeInfo, hi, hz, newVar, newRow]) ⟨s', r', t', _, _, _, hk, h'⟩
  · exact hw.elim
theorem ok_box {ty : TypeId} {x : Operand} (ho : o.op = .box ty x) : OpOK P E o := by
  intro w0 B Z0 gv s a w Z RV L r t K Q hd h hw
  simp only [astep, ho] at hw
  obtain ⟨v, r', hv, hw⟩ := opd_sound hw h
  by_cases hc : svOk v && (svCells v).all wrC
  · simp only [hc, if_true] at hw
    rw [Bool.and_eq_true] at hc
    have hcs := slot_cells h hv hc.2 hc.1
    have ha := h.alloc (.cells (a.eval x).cells ty)
    obtain ⟨s', r', t', RV', L', hk, h'⟩ := setN_sound hw ha.1 hd (V := .pointer (some ⟨w.heap.size, 0, none⟩)) (l := [w.heap.size])
      (fun R RV' hrf => ⟨_, (a.eval x).cells, ty, rfl, rfl, heap_new .., hcs.mono (fun _ h => h) (z_alloc h _) ((h.refs_alloc _).trans hrf)⟩) (hdr_ptr _) (by simp) ha.2
    exact wp_value (w' := w.alloc (.cells (a.eval x).cells ty)) (by simp [execOp, ho, Instr.box, newVar, newRow]) ⟨s', r', t', _, _, _, hk, h'⟩
  · simp only [hc] at hw
    exact hw.elim
end
end Go.Den

/- Reading memory. -/
namespace Go.Den

theorem pickN_spec : ∀ {n : Nat} {o ys : List Cell}, pickN n o = some ys → ys = o.take n ∧ ys.length = n
  | 0, _, _, h => by simp [pickN] at h; subst h; simp
  | n + 1, [], _, h => by simp [pickN] at h
  | n + 1, x :: xs, ys, h => by
    simp only [pickN, Option.map_eq_some_iff] at h
    obtain ⟨zs, h1, h2⟩ := h
    obtain ⟨h3, h4⟩ := pickN_spec h1
    subst h2
    exact ⟨by simp [← h3], by simp [h4]⟩

section
variable {P : Program} {E : Env} {o : Oper}
theorem run_isAgg {t : TypeId} {d : TypeDesc} (hu : P.underlying t = some d) (w : World) : (isAgg t).run P w = .ok (isAggD d) w := by
  unfold isAgg
  rw [Sem.run_bind, run_underlying hu w]
  cases d <;> rfl
/-- A variable is read. -/
theorem run_loadVar (hT : TabOK P E.T) {t : TypeId} {d : Ty} (ht : E.T t = some d) (hd : (isAggD d.desc || d.size == 1) = true) {w : World} {A : Addr} {us : List Value}
    (hl : us.length = d.size) (hc : ∀ j v, us[j]? = some v → w.cell? (A.add j) = some v) :
    (loadVar t A).run P w = .ok (if isAggD d.desc then .agg us.toArray else us.getD 0 undef) w := by
  obtain ⟨hu, i, hi, hsz, hby, hz, -⟩ := hT _ _ ht
  unfold loadVar
  rw [Sem.run_bind, run_isAgg hu]
  simp only [Result.andThen_ok]
  cases hb : isAggD d.desc with
  | true =>
    have h1 : (loadCells A us.length).run P w = .ok us.toArray w := run_loadCells_list (P := P) w A us hc
    simp only [if_true]
    rw [hl] at h1
    simp [sizeOf, typeInfo, hi, hsz, h1]
  | false =>
    simp only [hb, Bool.false_or, beq_iff_eq] at hd
    have h0 : 0 < us.length := by omega
    have hg : us[0]? = some (us.getD 0 undef) := by simp [List.getD_eq_getElem?_getD, h0]
    have := hc 0 _ hg
    have hA : A.add 0 = A := by simp [Addr.add]
    rw [hA] at this
    simp [this]
theorem slot_mk {w : World} {Z : Nat → Prop} {R : Nat → List Cell} {RV : Nat → Nat → Value} {b : Bool} {ys : List Cell} {us : List Value} (h : SCells w Z R RV ys us) :
    Slot w Z R RV (svMk b ys) (if b then .agg us.toArray else us.getD 0 undef) := by
  cases b with
  | true => exact ⟨us.toArray, rfl, h⟩
  | false =>
    cases h with
    | nil => trivial
    | cons h t =>
      cases t with
      | nil => exact h
      | cons _ _ => trivial

section
variable {w0 : World} {B Z0 : Nat → Prop} {gv : List Value} {s : List Ent} {a : Act} {w : World} {Z : Nat → Prop} {RV : Nat → Nat → Value} {L : Nat → Nat → List Nat}

theorem view_sound {r i : Nat} {sz n b cap : Nat} {ds : List Cell} {cur : Array Value} {e : TypeId} {l : List Nat} (hi : i < (rOf s r).length) (hroot : (rOf s r)[i]? = some (.sl false sz n ds))
    (hV : RV r i = .slice (some ⟨b, 0, none⟩) n cap) (hh : w.heap[b]? = some (.cells cur e (0, 0))) (hc : Ows w noZ ds (cur.toList.take (n * sz)) l) :
    ∀ (m j : Nat), j + m ≤ ds.length → SCells w Z (rOf s) RV (viewL r i j ((ds.drop j).take m)) ((cur.toList.drop j).take m)
  | 0, j, _ => by simp; exact .nil
  | m + 1, j, hjm => by
    have hlt : j < ds.length := by omega
    have hlen := hc.length
    simp at hlen
    have hlt' : j < cur.toList.length := by simp; omega
    rw [List.drop_eq_getElem_cons hlt, List.drop_eq_getElem_cons hlt', List.take_succ_cons, List.take_succ_cons, viewL]
    refine .cons ?_ (by
      have := view_sound hi hroot hV hh hc m (j + 1) (by omega)
      exact this)
    obtain ⟨v, l1, lx, l2, hv, -, hox, -⟩ := hc.split (List.getElem?_eq_getElem hlt)
    have hv' : v = cur.toList[j] := by
      have := List.getElem?_take (l := cur.toList) (i := n * sz) (j := j)
      rw [hv] at this
      split at this
      · rw [List.getElem?_eq_getElem hlt'] at this; exact Option.some.inj this
      · simp at this
    subst hv'
    have hde : SCell w Z (rOf s) RV (.hd r i (some j)) cur.toList[j] := by
      refine .hde hi fun x hx hhx => ?_
      rw [hV]
      simp only [elemV, addrOf, Option.bind_some, add_off, cell_at hh]
      exact List.getElem?_eq_getElem hlt'
    generalize hx : ds[j] = x at *
    cases x with
    | c v => cases hox; exact .c _
    | sl => exact hde
    | mp => exact hde
    | _ => exact .hole _
theorem plain_ows : ∀ {Z : Nat → Prop} {xs : List Cell} {vs : List Value} {l : List Nat}, Ows w Z xs vs l → Plain xs → xs = vs.map .c
  | _, _, _, _, .nil _, _ => rfl
  | _, _, _, _, .cons h t, hp => by
    have h1 := hp _ (List.mem_cons_self ..)
    have h2 := plain_ows t fun x hx => hp x (List.mem_cons_of_mem _ hx)
    cases h <;> simp [isC] at h1
    simp [← h2]
theorem plain_shs : ∀ {xs : List Cell} {vs : List Value}, Shs w Z xs vs → Plain xs → xs = vs.map .c
  | _, _, .nil, _ => rfl
  | _, _, .cons h t, hp => by
    have h1 := hp _ (List.mem_cons_self ..)
    have h2 := plain_shs t fun x hx => hp x (List.mem_cons_of_mem _ hx)
    cases h <;> simp [isC] at h1
    simp [← h2]
theorem plain_scells {R : Nat → List Cell} : ∀ {xs : List Cell} {vs : List Value}, SCells w Z R RV xs vs → Plain xs → xs = vs.map .c
  | _, _, .nil, _ => rfl
  | _, _, .cons h t, hp => by
    have h1 := hp _ (List.mem_cons_self ..)
    have h2 := plain_scells t fun x hx => hp x (List.mem_cons_of_mem _ hx)
    cases h with
    | c => simp [← h2]
    | sh h => cases h <;> simp [isC] at h1; simp [← h2]
    | _ => simp [isC] at h1
theorem plain_one : ∀ {vs : List Value}, Plain (vs.map .c) → ∀ v ∈ vs, v.oneCell' = true := fun hp v hv => hp (.c v) (List.mem_map.2 ⟨v, hv, rfl⟩)

/-- The cells behind an address. -/
structure Behind (w : World) (V : Value) (us : List Value) (A : Addr) : Prop where
  v : V = .pointer (some A)
  c : ∀ j v, us[j]? = some v → w.cell? (A.add j) = some v
theorem addr_eta {A : Addr} (h : A.spot = none) : A = ⟨A.block, A.off, none⟩ := by cases A; simp_all
theorem add_add {A : Addr} (h : A.spot = none) (i j : Nat) : (A.add i).add j = A.add (i + j) := by
  rw [add_at A i h, add_at _ _ rfl, add_at A (i + j) h]
  simp [Nat.add_assoc]
theorem behind_sub {A : Addr} (hA : A.spot = none) {vs : List Value} (hc : ∀ m v, vs[m]? = some v → w.cell? (A.add m) = some v) (j m : Nat) :
    Behind w (.pointer (some (A.add j))) ((vs.drop j).take m) (A.add j) := by
  refine ⟨rfl, fun i v hv => ?_⟩
  rw [add_add hA]
  refine hc _ _ ?_
  rw [List.getElem?_take] at hv
  split at hv
  · rwa [List.getElem?_drop] at hv
  · cases hv
theorem cells_off {A : Addr} (hA : A.spot = none) {cur : Array Value} {e : TypeId} {fr : Nat × Nat} (hh : w.heap[A.block]? = some (.cells cur e fr)) (m : Nat) :
    ∀ j v, ((cur.toList.drop A.off).take m)[j]? = some v → w.cell? (A.add j) = some v := fun j v hv => by
  rw [add_at A j hA, cell_at hh]
  rw [List.getElem?_take] at hv
  split at hv
  · rwa [List.getElem?_drop] at hv
  · cases hv
theorem sl_cells {A : Addr} {n sz : Nat} {cs : List Cell} {vs : List Value} (h : Shs w Z cs vs)
    (hm : cs ≠ [] → Z A.block ∧ A.spot = none ∧ ∃ (cur : Array Value) (e : TypeId) (fr : Nat × Nat), w.heap[A.block]? = some (.cells cur e fr) ∧ A.off + n * sz ≤ cur.size ∧ vs = (cur.toList.drop A.off).take (n * sz)) :
    ∀ j v, vs[j]? = some v → w.cell? (A.add j) = some v := fun j v hv => by
  by_cases hne : cs = []
  · subst hne
    cases h
    simp at hv
  · obtain ⟨-, hs, cur, e, fr, hh, -, rfl⟩ := hm hne
    exact cells_off hs hh _ j v hv
theorem cells_0 {b : Nat} {cur : Array Value} {e : TypeId} {fr : Nat × Nat} (hh : w.heap[b]? = some (.cells cur e fr)) (m : Nat) :
    ∀ j v, (cur.toList.take m)[j]? = some v → w.cell? ((⟨b, 0, none⟩ : Addr).add j) = some v := fun j v hv => by
  have := cells_off (A := ⟨b, 0, none⟩) rfl hh m j v
  simp only [List.drop_zero] at this
  exact this hv
theorem cells_00 {b : Nat} {cur : Array Value} {e : TypeId} {fr : Nat × Nat} (hh : w.heap[b]? = some (.cells cur e fr)) :
    ∀ j v, cur.toList[j]? = some v → w.cell? ((⟨b, 0, none⟩ : Addr).add j) = some v := fun j v hv => by
  have := cells_0 hh cur.toList.length j v
  rw [List.take_length] at this
  exact this hv

/-- The cells of what a name leads to. -/
theorem content (h : At E w0 B Z0 gv s a w Z RV L) {r i : Nat} {x : Cell} (hx : (rOf s r)[i]? = some x) {es : Bool} {ds : List Cell}
    (hd : x = .ptr ds ∨ (∃ sz n, x = .sl true sz n ds) ∨ (∃ sz n, x = .shd (.sl es sz n ds)) ∨ x = .shd (.ptr ds)) (hA : ∃ A, addrOf (RV r i) = some A) :
    ∃ A vs, addrOf (RV r i) = some A ∧ (ds ≠ [] → A.spot = none) ∧ (∀ m v, vs[m]? = some v → w.cell? (A.add m) = some v) ∧ SCells w Z (rOf s) RV ds vs := by
  have hrc := h.inv.root r i x hx
  rcases hd with rfl | ⟨sz, n, rfl⟩ | ⟨sz, n, rfl⟩ | rfl
  · obtain ⟨b, cur, e, e1, e2, h3, h4⟩ := hrc
    exact ⟨_, _, by rw [e1]; rfl, fun _ => rfl, cells_00 h3, h4⟩
  · rcases Ow.sls_inv hrc with ⟨b, cap, cur, e, e1, e2, h3, h4, h5, h6, h7, h8⟩ | ⟨e1, -⟩
    rotate_left
    · obtain ⟨A, hA⟩ := hA
      rw [e1] at hA
      cases hA
    exact ⟨_, _, by rw [e1]; rfl, fun _ => rfl, cells_0 h3 _, .of_shs h8⟩
  · rcases (Ow.shd_inv hrc).2.sl_inv with ⟨A, cap, vs, e1, h4, h6, h8, hm⟩ | ⟨e1, -, -⟩
    rotate_left
    · obtain ⟨A, hA⟩ := hA
      rw [e1] at hA
      cases hA
    exact ⟨A, _, by rw [e1]; rfl, fun hne => (hm hne).2.1, sl_cells h8 hm, .of_shs h8⟩
  · obtain ⟨A, cur, e, fr, e1, hz, hs, hh, hroom, h8⟩ := (Ow.shd_inv hrc).2.ptr_inv
    exact ⟨A, _, by rw [e1]; rfl, fun _ => hs, cells_off hs hh _, .of_shs h8⟩

theorem loadAM_sound {C : FuncId → List Arg → Res → Prop} {r t : List Nat} {α : Type} {K : α → List Ent → List Nat → List Nat → Prop} (h : At E w0 B Z0 gv s a w Z RV L) {ty : Ty} {c : Cell} {V : Value} {k : SV → AM α}
    (hc : SCell w Z (rOf s) RV c V) (hw : wp C (loadAM ty c k) s r t K) :
    ∃ ys us A r', wp C (k (svMk (isAggD ty.desc) ys)) s r' t K ∧ SCells w Z (rOf s) RV ys us ∧ ys.length = ty.size ∧ Behind w V us A := by
  have fin : ∀ {A : Addr} {vs : List Value} {ds : List Cell} {j : Nat} {r' : List Nat}, (ds ≠ [] → A.spot = none) → (∀ m v, vs[m]? = some v → w.cell? (A.add m) = some v) → SCells w Z (rOf s) RV ds vs →
      V = .pointer (some (A.add j)) → wp C (.picks (ds.drop j) ty.size fun ys => k (svMk (isAggD ty.desc) ys)) s r' t K →
      ∃ ys us A r', wp C (k (svMk (isAggD ty.desc) ys)) s r' t K ∧ SCells w Z (rOf s) RV ys us ∧ ys.length = ty.size ∧ Behind w V us A := by
    intro A vs ds j r' hs hcell hsc hV hw
    rw [wp_picks] at hw
    obtain ⟨ys, hy, hw⟩ := hw
    obtain ⟨h1, h2⟩ := pickN_spec hy
    have hsc' := (hsc.drop j).take ty.size
    rw [← h1] at hsc'
    by_cases hd : ds = []
    · have : ys = [] := by rw [h1, hd]; simp
      subst this
      exact ⟨[], [], _, r', hw, .nil, h2, by rw [hV]; exact ⟨rfl, fun j v hv => by simp at hv⟩⟩
    · exact ⟨ys, _, _, r', hw, hsc', h2, by rw [hV]; exact behind_sub (hs hd) hcell j ty.size⟩
  have hadd0 : ∀ A : Addr, A.add 0 = A := fun A => by simp [Addr.add]
  cases c with
  | ptr cs =>
    obtain ⟨A, cur, e, fr, rfl, hz, hs, hh, hroom, hsh⟩ := (scell_ptr hc).ptr_inv
    exact fin (j := 0) (fun _ => hs) (cells_off hs hh _) (.of_shs hsh) (by rw [hadd0]) hw
  | ad rr i kk j =>
    simp only [loadAM] at hw
    obtain ⟨x, r', hlt, hx, hok, hw2⟩ := atP_sound hw
    clear hw
    cases kk with
    | none =>
      have hi := (List.getElem?_eq_some_iff.1 hx).1
      have hV : ∃ A, addrOf (RV rr i) = some A ∧ V = .pointer (some (A.add j)) := by
        cases hc with
        | sh hx => cases hx
        | ad hlt ha => exact ⟨_, ha, rfl⟩
      obtain ⟨A, hA, hVA⟩ := hV
      have go : ∀ {ds : List Cell} {es : Bool}, (x = .ptr ds ∨ (∃ sz n, x = .sl true sz n ds) ∨ (∃ sz n, x = .shd (.sl es sz n ds)) ∨ x = .shd (.ptr ds)) →
          wp C (.picks (ds.drop j) ty.size fun ys => k (svMk (isAggD ty.desc) ys)) s r' t K →
          ∃ ys us A r', wp C (k (svMk (isAggD ty.desc) ys)) s r' t K ∧ SCells w Z (rOf s) RV ys us ∧ ys.length = ty.size ∧ Behind w V us A := by
        intro ds es hd hw
        obtain ⟨A', vs, h1, h2, h3, h4⟩ := content h hx hd ⟨_, hA⟩
        rw [hA] at h1
        obtain rfl := Option.some.inj h1
        exact fin h2 h3 h4 hVA hw
      cases x with
      | sl es sz n ds =>
        cases es with
        | false =>
          rw [wp_picks] at hw2
          obtain ⟨ys, hy, hw⟩ := hw2
          obtain ⟨h1, h2⟩ := pickN_spec hy
          have hrc := h.inv.root rr i _ hx
          obtain ⟨b, cap, cur, e, l', e1, e2, h3, h4, h5, h6, h7, h8⟩ := Ow.sl_addr hrc hA
          rw [e1] at hA
          obtain rfl := Option.some.inj hA
          have hvl : ∀ (j : Nat) (ys : List Cell), (viewL rr i j ys).length = ys.length := fun j ys => by
            induction ys generalizing j with
            | nil => rfl
            | cons y ys ih => simp [viewL, ih]
          have hjm : j + ty.size ≤ ds.length ∨ ty.size = 0 := by
            have := congrArg List.length h1
            simp [h2] at this
            omega
          rcases hjm with hjm | h0
          · refine ⟨_, _, _, r', hw, ?_, by rw [hvl]; exact h2, by rw [hVA]; exact behind_sub rfl (cells_00 h3) j ty.size⟩
            rw [h1]
            exact view_sound hi hx e1 h3 h8 ty.size j hjm
          · have : ys = [] := List.length_eq_zero_iff.1 (by omega)
            subst this
            exact ⟨[], [], _, r', by simpa [viewL] using hw, .nil, by simp [h0], by rw [hVA]; exact ⟨rfl, fun j v hv => by simp at hv⟩⟩
        | true => exact go (es := true) (.inr (.inl ⟨_, _, rfl⟩)) hw2
      | ptr ds => exact go (es := true) (.inl rfl) hw2
      | shd x =>
        cases x with
        | sl es sz n ds => exact go (.inr (.inr (.inl ⟨_, _, rfl⟩))) hw2
        | ptr ds => exact go (es := true) (.inr (.inr (.inr rfl))) hw2
        | _ => exact hw2.elim
      | _ => exact hw2.elim
    | some kk =>
      obtain ⟨u, l, L', -, -, -, -, hcase⟩ := h.take hlt hx hok
      obtain ⟨⟨kk', hkk, hel⟩, ho⟩ := hcase.resolve_left (by simp)
      obtain rfl := Option.some.inj hkk
      cases x with
      | sl es sz n ds =>
        have hV : ∃ A, addrOf u = some A ∧ V = .pointer (some (A.add j)) := by
          cases hc with
          | sh hx => cases hx
          | ade hi hv =>
            obtain ⟨u', A, hu, hA, hVA⟩ := hv _ hx rfl
            rw [hel] at hu
            obtain rfl := Option.some.inj hu
            exact ⟨A, hA, hVA⟩
        obtain ⟨A, hA, hVA⟩ := hV
        cases es with
        | false =>
          rw [wp_picks] at hw2
          obtain ⟨ys, hy, hw⟩ := hw2
          rw [wp_test] at hw
          obtain ⟨hp, hw⟩ := hw
          obtain ⟨h1, h2⟩ := pickN_spec hy
          obtain ⟨b, cap, cur, e, l', e1, e2, h3, h4, h5, h6, h7, h8⟩ := ho.sl_addr hA
          rw [e1] at hA
          obtain rfl := Option.some.inj hA
          have h9 : Shs w (fun _ => True) ds (cur.toList.take (n * sz)) := h8.sh (fun _ h => h.elim) fun _ _ => trivial
          have h10 := (h9.drop j).take ty.size
          rw [← h1] at h10
          have h11 := plain_shs h10 hp
          refine ⟨ys, _, _, r', hw, by rw [h11]; exact SCells.of_c _, h2, by rw [hVA]; exact behind_sub rfl (cells_0 h3 _) j ty.size⟩
        | true =>
          obtain ⟨b, cap, cur, e, e1, e2, h3, h4, h5, h6, h7, h8⟩ := ho.sls_addr hA
          rw [e1] at hA
          obtain rfl := Option.some.inj hA
          exact fin (fun _ => rfl) (cells_0 h3 _) (.of_shs (h8.zmono fun _ h => h.elim)) hVA hw2
      | ptr => simp [okAt] at hok
      | shd => simp [okAt] at hok
      | _ => exact hw2.elim
  | hd rr i kk => 
    cases kk with
    | none =>
      simp only [loadAM] at hw
      obtain ⟨x, r', hlt, hx, hok, hw2⟩ := atP_sound hw
      clear hw
      have hV : V = RV rr i := by
        cases hc with
        | sh hx => cases hx
        | hd hlt => rfl
      have hptr : ∀ {A : Addr}, addrOf V = some A → (∃ b, V = .pointer b) → V = .pointer (some (A.add 0)) := fun hA hp => by
        obtain ⟨b, rfl⟩ := hp
        simp only [addrOf] at hA
        rw [hA, hadd0]
      cases x with
      | ptr ds =>
        obtain ⟨b, cur, e, e1, -⟩ := h.inv.root rr i _ hx
        obtain ⟨A, vs, h1, h2, h3, h4⟩ := content (es := true) h hx (.inl rfl) ⟨_, by rw [e1]; rfl⟩
        exact fin (j := 0) h2 h3 h4 (hptr (by rw [hV]; exact h1) ⟨_, by rw [hV]; exact e1⟩) hw2
      | shd x =>
        cases x with
        | ptr ds =>
          obtain ⟨A', cur, e, fr, e1, -⟩ := (Ow.shd_inv (h.inv.root rr i _ hx)).2.ptr_inv
          obtain ⟨A, vs, h1, h2, h3, h4⟩ := content (es := true) h hx (.inr (.inr (.inr rfl))) ⟨_, by rw [e1]; rfl⟩
          exact fin (j := 0) h2 h3 h4 (hptr (by rw [hV]; exact h1) ⟨_, by rw [hV]; exact e1⟩) hw2
        | _ => exact hw2.elim
      | _ => exact hw2.elim
    | some kk => exact hw.elim
  | _ => exact hw.elim
theorem Taken.free0 {L0 : Nat → Nat → List Nat} {l : List Nat} (ht : Taken L0 L l) {s0 : List Ent} (h0 : At E w0 B Z0 gv s0 a w Z RV L0) : Free w0 B w Z L l := fun b hb => by
  obtain ⟨r, i, hb'⟩ := ht.from_ b hb
  have := h0.inv.own r i b hb'
  exact ⟨this.1, this.2.1, this.2.2, ht.gone b hb⟩
end
theorem ok_load (hT : TabOK P E.T) {ty : TypeId} {x : Operand} (ho : o.op = .load ty x) : OpOK P E o := by
  intro w0 B Z0 gv s a w Z RV L r t K Q hd h hw
  simp only [astep, ho] at hw
  split at hw
  · rename_i d ht
    by_cases hc : (isAggD d.desc || d.size == 1) = true
    · simp only [hc, if_true] at hw
      obtain ⟨c, r', hsc, hw⟩ := opC_sound hw h
      obtain ⟨ys, us, A, r', hw, hys, hl, hb⟩ := loadAM_sound h hsc hw
      have hl' : us.length = d.size := by rw [← hys.length]; exact hl
      have hrun : (execOp a.eval o).run P w = .ok (.value (if isAggD d.desc then .agg us.toArray else us.getD 0 undef)) w := by
        simp [execOp, ho, Instr.loadAt, Instr.sureAddr, hb.v, run_loadVar hT ht hc hl' hb.c]
      split at hw
      · unfold takeAM at hw
        cases hag : isAggD d.desc with
        | true =>
          rw [hag] at hw
          exact (show False from hw).elim
        | false =>
          rw [hag] at hw hrun
          cases hys with
          | nil => exact (show False from hw).elim
          | cons h1 t1 =>
            cases t1 with
            | cons _ _ => exact (show False from hw).elim
            | nil =>
              obtain ⟨zs, l, s', L', r2, t2, h', -, -, htk, how, hw⟩ := (pk_sound 12).2 h (.cons h1 .nil) (show wp _ (pkL 12 _ _) _ _ _ _ from hw)
              cases how with
              | cons h3 t3 =>
                cases t3
                rw [List.append_nil] at htk
                obtain ⟨s'', r3, t3, RV', L'', hk, h''⟩ := setR_sound hw h' hd h3 htk.nodup (htk.free0 h)
                exact wp_value hrun ⟨s'', r3, t3, _, RV', L'', hk, h''⟩
      · exact fin_value hd h hw (slot_mk hys) hrun
    · simp only [hc] at hw
      exact hw.elim
  · exact hw.elim
end
end Go.Den
