import Derived.Test.YtihdeagknggeiaaDoorFj
set_option autoImplicit false
set_option linter.unusedSimpArgs false
set_option linter.unusedVariables false
namespace Go.Proofs.YtihdeagknggeiaaDoor
open Go.Den
/-! Tables with keys. -/
def findG {κ β : Type} [DecidableEq κ] (k : κ) : List (κ × β) → Option β
  | [] => none
  | e :: es => if e.1 = k then some e.2 else findG k es
def addG {κ β : Type} [DecidableEq κ] (k : κ) (v : β) : List (κ × β) → List (κ × β)
  | [] => [(k, v)]
  | e :: es => if e.1 = k then (e.1, v) :: es else e :: addG k v es
theorem findG_mem {κ β : Type} [DecidableEq κ] {k : κ} {v : β} : ∀ {es : List (κ × β)}, findG k es = some v → (k, v) ∈ es
  | [], h => by cases h
  | e :: es, h => by
    unfold findG at h
    split at h
    · rename_i he
      cases h
      rw [← he]
      simp
    · exact List.mem_cons_of_mem _ (findG_mem h)
theorem findG_none {κ β : Type} [DecidableEq κ] {k : κ} : ∀ {es : List (κ × β)}, findG k es = none → ∀ e ∈ es, e.1 ≠ k
  | [], _ => fun e he => by cases he
  | e :: es, h => fun x hx => by
    unfold findG at h
    split at h
    · cases h
    · rename_i he
      rcases List.mem_cons.1 hx with rfl | hx
      · exact he
      · exact findG_none h x hx
theorem addG_mem {κ β : Type} [DecidableEq κ] {k : κ} {v : β} {e : κ × β} : ∀ {es : List (κ × β)}, e ∈ addG k v es → e = (k, v) ∨ e ∈ es
  | [], h => by simp [addG] at h; exact .inl h
  | x :: es, h => by
    unfold addG at h
    split at h
    · rename_i he
      rcases List.mem_cons.1 h with rfl | h
      · exact .inl (by rw [he])
      · exact .inr (List.mem_cons_of_mem _ h)
    · rcases List.mem_cons.1 h with rfl | h
      · exact .inr (by simp)
      · exact (addG_mem h).imp id (List.mem_cons_of_mem _)
theorem findG_add {κ β : Type} [DecidableEq κ] (k k' : κ) (v : β) : ∀ es : List (κ × β), findG k' (addG k v es) = if k = k' then some v else findG k' es
  | [] => by
    by_cases h : k = k' <;> simp [findG, addG, h]
  | e :: es => by
    unfold addG
    split
    · rename_i he
      by_cases h : k = k'
      · simp [findG, he, h]
      · simp [findG, he, h]
    · rename_i he
      simp only [findG]
      rw [findG_add k k' v es]
      by_cases h : k = k'
      · subst h; simp [he]
      · simp [h]
theorem getM_gen {κ β : Type} [DecidableEq κ] {kv : κ → Value} {cv : β → Cell} (hk : ∀ a b, keyEq (kv a) (kv b) = decide (b = a)) (k : κ) : ∀ es : List (κ × β), getM (kv k) (es.map fun e => kv e.1) (es.map fun e => cv e.2) = (findG k es).map cv
  | [] => rfl
  | e :: es => by
    have ih := getM_gen (cv := cv) hk k es
    unfold getM at ih ⊢
    simp only [List.map_cons, findK, findG, hk]
    by_cases h : e.1 = k
    · simp [h]
    · rw [if_neg (by simpa using h), if_neg h, ← ih]
      cases findK (kv k) (es.map fun e => kv e.1) <;> simp
theorem putM_gen {κ β : Type} [DecidableEq κ] {kv : κ → Value} {cv : β → Cell} (hk : ∀ a b, keyEq (kv a) (kv b) = decide (b = a)) (k : κ) (v : β) : ∀ es : List (κ × β), putK (kv k) (es.map fun e => kv e.1) = (addG k v es).map (fun e => kv e.1) ∧ putM (kv k) (es.map fun e => kv e.1) (cv v) (es.map fun e => cv e.2) = (addG k v es).map fun e => cv e.2
  | [] => ⟨rfl, rfl⟩
  | e :: es => by
    have ih := putM_gen (cv := cv) hk k v es
    unfold putK putM at ih ⊢
    simp only [List.map_cons, findK, addG, hk]
    by_cases h : e.1 = k
    · simp [h]
    · rw [if_neg (by simpa using h), if_neg h]
      cases hf : findK (kv k) (es.map fun e => kv e.1) with
      | none => rw [hf] at ih; simpa using ih
      | some i => rw [hf] at ih; simpa using ih
def keyN (n : Nat) : Value := .int .i64 n
theorem keyEq_N (a b : Nat) : keyEq (keyN a) (keyN b) = decide (b = a) := by
  have : keyEq (keyN a) (keyN b) = ((a : Int) == (b : Int)) := by simp [keyEq, keyN]
  rw [this]
  by_cases h : b = a
  · subst h; simp
  · rw [decide_eq_false h]; simp; omega
abbrev MemoN := List (Nat × Nat)
def memoN (es : MemoN) : Cell := .mp false (es.map fun e => keyN e.1) (es.map fun e => i64 (e.2 : Nat))
end Go.Proofs.YtihdeagknggeiaaDoor
