import Derived.Test.YtihdeagknggeiaaDoorDf
import Derived.Shelf.SlSortCmp.NoneTotal
import Derived.Shelf.SortM.Plain
import Derived.Shelf.SortM.SortNone
set_option autoImplicit false
set_option linter.unusedSimpArgs false
set_option linter.unusedVariables false
/- The kit's contracts of slices.SortFunc as promises on trees. -/
namespace Go.Den
open Go.Proofs Go.Shelf

/-! ### Worlds -/
theorem Ext.grown {D : Nat → Prop} {w w' : World} (h : Ext D w w') (hd : ∀ b, ¬ D b) : ∃ q os, w' = Go.Sort.grow (w.drewN q) os := by
  refine ⟨w'.drawn - w.drawn, w'.heap.extract w.heap.size w'.heap.size, ?_⟩
  have hs := h.size
  have hh : w'.heap = w.heap ++ w'.heap.extract w.heap.size w'.heap.size := by
    apply Array.ext_getElem?
    intro k
    rw [Array.getElem?_append]
    by_cases hk : k < w.heap.size
    · rw [if_pos hk]
      exact h.keep k hk (hd k)
    · rw [if_neg hk, Array.getElem?_extract]
      by_cases hk2 : k < w'.heap.size
      · rw [if_pos (by omega), show w.heap.size + (k - w.heap.size) = k by omega]
      · rw [if_neg (by omega), Array.getElem?_eq_none (by omega)]
  have h1 := h.os
  have h2 := h.tape
  have h3 := h.output
  have h4 := h.drawn
  cases w with | mk heap tape drawn os output =>
  cases w' with | mk heap' tape' drawn' os' output' =>
  simp only at h1 h2 h3 h4 hh hs ⊢
  subst h1 h2 h3
  have hd : drawn' = drawn + (drawn' - drawn) := by omega
  simp only [Go.Sort.grow, World.drewN, World.mk.injEq]
  exact ⟨hh, trivial, hd, trivial, trivial⟩
section
variable {α : Type} [Inhabited α]
theorem sortW_ext (enc : α → Value) (w : World) (b m : Nat) (dk : Array α) (os : Array Obj) : Ext (fun c => c = b) w (sortWorld enc w b 0 m dk os) := by
  have hs : (Go.Sort.putRow enc (Go.Sort.ahead w m) b 0 dk).heap.size = w.heap.size := by
    rw [Go.Sort.size_putRow]
    rfl
  refine ⟨rfl, rfl, rfl, Nat.le_add_right _ _, ?_, fun c hc hb => ?_⟩
  · show w.heap.size ≤ (Go.Sort.grow _ os).heap.size
    rw [Go.Sort.size_grow, hs]
    omega
  · show (Go.Sort.grow _ os).heap[c]? = _
    rw [Go.Sort.heap_grow_old _ _ (by rw [hs]; exact hc)]
    show (w.heap.modify b _)[c]? = _
    rw [Array.getElem?_modify, if_neg (fun e => hb e.symm)]
theorem sortW_at (enc : α → Value) (w : World) (b m : Nat) (dk : Array α) (os : Array Obj) {cur : Array Value} {e : TypeId} {fr : Nat × Nat} (hh : w.heap[b]? = some (.cells cur e fr)) :
    (sortWorld enc w b 0 m dk os).heap[b]? = some (.cells (Go.Sort.putCells enc 0 dk cur) e fr) := by
  have hb : b < w.heap.size := (Array.getElem?_eq_some_iff.1 hh).1
  have hs : (Go.Sort.putRow enc (Go.Sort.ahead w m) b 0 dk).heap.size = w.heap.size := by
    rw [Go.Sort.size_putRow]
    rfl
  show (Go.Sort.grow _ os).heap[b]? = _
  rw [Go.Sort.heap_grow_old _ _ (by rw [hs]; exact hb)]
  show (w.heap.modify b _)[b]? = _
  rw [Array.getElem?_modify, if_pos rfl, hh]
  rfl
theorem putCells_size (enc : α → Value) (d : Array α) (c : Array Value) : (Go.Sort.putCells enc 0 d c).size = c.size := by simp [Go.Sort.putCells]
theorem putCells_take (enc : α → Value) (d : Array α) (c : Array Value) (h : d.size ≤ c.size) : (Go.Sort.putCells enc 0 d c).toList.take d.size = d.toList.map enc := by
  refine List.ext_getElem? fun k => ?_
  rw [List.getElem?_take, List.getElem?_map]
  by_cases hk : k < d.size
  · rw [if_pos hk]
    simp only [Go.Sort.putCells, Array.getElem?_toList, Array.getElem?_mapIdx]
    rw [Array.getElem?_eq_getElem (show k < c.size by omega), Array.getElem?_eq_getElem hk, Option.map_some, Option.map_some, if_pos ⟨Nat.zero_le _, by omega⟩, Nat.sub_zero, getElem!_pos d k hk]
  · rw [if_neg hk]
    simp [Array.getElem?_eq_none (show d.size ≤ k by omega)]
end
/-- Owned trees in another order. -/
theorem Ows.perm {w : World} {Z : Nat → Prop} {ps qs : List (Cell × Value)} (hp : qs.Perm ps) : ∀ {l : List Nat}, Ows w Z (ps.map (·.1)) (ps.map (·.2)) l → ∃ m, m.Perm l ∧ Ows w Z (qs.map (·.1)) (qs.map (·.2)) m := by
  induction hp with
  | nil => exact fun h => ⟨_, .refl _, h⟩
  | cons x _ ih =>
    intro l h
    cases h with
    | cons h t =>
      obtain ⟨m, hm, h2⟩ := ih t
      exact ⟨_, hm.append_left _, .cons h h2⟩
  | swap x y _ =>
    intro l h
    cases h with
    | cons h1 t =>
      cases t with
      | cons h2 t =>
        refine ⟨_, ?_, .cons h2 (.cons h1 t)⟩
        rw [← List.append_assoc, ← List.append_assoc]
        exact List.perm_append_comm.append_right _
  | trans _ _ ih1 ih2 =>
    intro l h
    obtain ⟨m, hm, h2⟩ := ih2 h
    obtain ⟨m2, hm2, h3⟩ := ih1 h2
    exact ⟨m2, hm2.trans hm, h3⟩
/-- The elements, each with its value. -/
theorem Ows.elems {β : Type} (f : β → Cell) (Q : β → Prop) {w : World} {Z Z' : Nat → Prop} : ∀ {xs : List β} {vs : List Value} {l : List Nat}, Ows w Z (xs.map f) vs l → (∀ b, Z b → Z' b) → (∀ b, b ∈ l → Z' b) → (∀ x ∈ xs, okC (f x) = true ∧ Q x) →
    ∃ ps : List {p : Value × β // p.1.oneCell' = true ∧ Sh w Z' (f p.2) p.1 ∧ Q p.2}, ps.map (fun p => p.1.2) = xs ∧ ps.map (fun p => p.1.1) = vs
  | [], vs, l, h, _, _, _ => by
    cases h
    exact ⟨[], rfl, rfl⟩
  | x :: xs, vs, l, h, hz, hl, hk => by
    cases h with
    | cons h t =>
      obtain ⟨ps, e1, e2⟩ := Ows.elems f Q t hz (fun b hb => hl b (by simp [hb])) (fun y hy => hk y (by simp [hy]))
      exact ⟨⟨(_, x), ow_one h (hk x (by simp)).1, h.sh hz fun b hb => hl b (by simp [hb]), (hk x (by simp)).2⟩ :: ps, by rw [List.map_cons, e1], by rw [List.map_cons, e2]⟩
theorem sortedIn_pw {α : Type} [Inhabited α] {lt : α → α → Bool} {d : Array α} (h : Go.Sort.SortedIn lt 0 d.size d) : d.toList.Pairwise fun a b => lt b a = false := by
  rw [List.pairwise_iff_getElem]
  intro i j hi hj hij
  have := h i j (Nat.zero_le _) hij (by simpa using hj)
  rw [getElem!_pos d i (by simpa using hi), getElem!_pos d j (by simpa using hj)] at this
  simpa using this
theorem permIn_perm {α : Type} [Inhabited α] {d e : Array α} (h : Go.Sort.PermIn 0 d.size d e) : e.toList.Perm d.toList := by
  obtain ⟨h1, -, h3⟩ := h
  rwa [show e.extract 0 d.size = e by rw [← h1]; simp, show d.extract 0 d.size = d by simp] at h3

/-- slices.SortFunc at elements of one cell that are one's own. -/
theorem sortOwn {P : Program} {ρ : Ren} {G : Nat → Option (List Value)} (L : SlLaysF.n6 P ρ) (L0 : SlLaysF0.n6 P ρ) {g : Nat} (eg : ∀ args w, (callFunc g args).run P w = .ok (.enter g args) w)
    (es : ∀ args w, (callFunc (ρ.f 6) args).run P w = .ok (.enter (ρ.f 6) args) w) {β : Type} (f : β → Cell) (cf : β → β → Int) (hO : Go.Sort.SWO (ltOf cf)) (xs ys : List β) (hk : ∀ x ∈ xs, okC (f x) = true)
    (hcmp : ∀ a ∈ xs, ∀ b ∈ xs, Ret P G g [⟨.ro, .one (f a)⟩, ⟨.ro, .one (f b)⟩] ⟨.one (.c (.int .i64 (cf a b))), []⟩)
    (hU : ∀ zs : List β, zs.Perm xs → zs.Pairwise (fun a b => ltOf cf b a = false) → zs.map f = ys.map f) (hn : xs.length < 4611686018427387904) :
    Ret P G (ρ.f 6) [⟨.mu, .one (.sl false 1 xs.length (xs.map f))⟩, ⟨.ro, .one (.fn (.func g) [])⟩] ⟨.tup [], [.one (.sl false 1 xs.length (ys.map f))]⟩ := by
  have hU0 : xs = [] → ys.map f = [] := fun e => by
    subst e
    exact (hU [] (.refl _) .nil).symm
  have cov : ∀ (v1 v2 : Value) (w : World) (R : Value → World → Prop), Calls P (ρ.f 6) #[v1, v2] w (fun e w' => ∃ v, e = .returned v ∧ R v w') → Goes P (ρ.f 6) [v1, v2].toArray w R := fun v1 v2 w R h => by
    unfold Goes
    rw [es]
    refine h.mono fun e w' he => ?_
    obtain ⟨v, rfl, hv⟩ := he
    exact hv
  intro w Z vs l hG hZ ha hnd hl
  match vs, ha with
  | [v1, v2], ha =>
    obtain ⟨l1, l2, h1, h2, rfl⟩ := ha
    obtain ⟨l3, l4, h3, h4, rfl⟩ := h2
    have e3 : l3 = [] := h3.2
    have e4 : l4 = [] := h4
    subst e3 e4
    simp only [List.append_nil] at hnd hl ⊢
    have hv2 : v2 = .func (.func g) #[] #[] := by
      have h : Sh w Z (.fn (.func g) []) v2 := h3.1
      cases h with
      | fn hc => cases hc; rfl
    subst hv2
    have h1 : Ow w Z (.sl false 1 xs.length (xs.map f)) v1 l1 := h1
    refine cov _ _ _ _ ?_
    by_cases hx0 : xs.length = 0
    · have hx : xs = [] := List.eq_nil_of_length_eq_zero hx0
      have hy := hU0 hx
      have fin : ∀ (p : Option Addr) (cap : Nat), v1 = .slice p 0 cap → Calls P (ρ.f 6) #[v1, .func (.func g) #[] #[]] w (fun e w' => ∃ v, e = .returned v ∧ ∃ Z' lr lo, Ext (· ∈ l1) w w' ∧ (∀ b, Z b → Z' b) ∧
          (∀ b, Z' b → Z b ∨ (b < w'.heap.size ∧ (b ∈ l1 ∨ w.heap.size ≤ b))) ∧ OwSV w' Z' (.tup []) v lr ∧ OutsRel w' Z' [⟨.mu, .one (.sl false 1 xs.length (xs.map f))⟩, ⟨.ro, .one (.fn (.func g) [])⟩] [v1, .func (.func g) #[] #[]] [.one (.sl false 1 xs.length (ys.map f))] lo ∧ (lr ++ lo).Nodup ∧
          ∀ b, b ∈ lr ++ lo → ¬ Z' b ∧ b < w'.heap.size ∧ (b ∈ l1 ∨ w.heap.size ≤ b)) := fun p cap e => by
        have := AnyF.slices_SortFunc_none L0 p cap (.func (.func g) #[] #[]) w
        rw [e]
        refine this.mono fun e w' he => ?_
        obtain ⟨rfl, rfl⟩ := he
        refine ⟨_, rfl, Z, [], l1, Ext.refl _ _, fun _ h => h, fun _ h => .inl h, ⟨_, rfl, rfl⟩, ⟨_, _, l1, [], rfl, ?_, ⟨rfl, rfl⟩, by simp⟩, by simpa using hnd, fun b hb => ?_⟩
        · subst hx
          rw [hy]
          subst e
          exact h1
        · have hb : b ∈ l1 := by simpa using hb
          exact ⟨(hl b hb).1, (hl b hb).2, .inl hb⟩
      have hcase : ∃ p cap, v1 = .slice p 0 cap := by
        generalize xs.map f = cs at h1
        rw [hx0] at h1
        cases h1 with
        | sl => exact ⟨_, _, rfl⟩
        | nil => exact ⟨_, _, rfl⟩
      obtain ⟨p, cap, e⟩ := hcase
      exact fin p cap e
    · cases hxs : xs with
      | nil => exact absurd (by rw [hxs]; rfl) hx0
      | cons x0 xs0 =>
      rw [← hxs]
      generalize hcs : xs.map f = cs at h1
      generalize hnn : xs.length = n at h1 hx0
      cases h1 with
      | nil => exact absurd rfl hx0
      | sl hh hlen hroom hcap hmax hv hc =>
        rename_i cap b cur e vs lr
        subst hnn hcs
        have hbl : b ∈ b :: lr := by simp
        obtain ⟨hbn, hlrn⟩ := List.nodup_cons.1 hnd
        obtain ⟨ps, hp1, hp2⟩ := Ows.elems (Z' := fun c => Z c ∨ c ∈ lr) f (· ∈ xs) hc (fun _ h => h.elim) (fun c hc => .inr hc) (fun x hx => ⟨hk x hx, hx⟩)
        have hpl : ps.length = xs.length := by have := congrArg List.length hp1; rwa [List.length_map] at this
        have hb0 := hl b hbl
        have hin : Inhabited {p : Value × β // p.1.oneCell' = true ∧ Sh w (fun c => Z c ∨ c ∈ lr) (f p.2) p.1 ∧ p.2 ∈ xs} := ⟨ps[0]'(by omega)⟩
        have hget : ∀ j (hj : j < ps.length), cur[j]? = some (ps[j]).1.1 := fun j hj => by
          have h1 : (cur.toList.take (xs.length * 1))[j]? = some (ps[j]).1.1 := by
            rw [← hv, ← hp2, List.getElem?_map, List.getElem?_eq_getElem hj]
            rfl
          rw [List.getElem?_take, if_pos (by omega)] at h1
          simpa using h1
        have hHo : Go.Sort.Holds (fun p : {p : Value × β // p.1.oneCell' = true ∧ Sh w (fun c => Z c ∨ c ∈ lr) (f p.2) p.1 ∧ p.2 ∈ xs} => p.1.1) w b 0 ps.toArray := fun j hj => by
          have hj' : j < ps.length := by simpa using hj
          have hg := hget j hj'
          rw [getElem!_pos ps.toArray j hj]
          constructor
          · simp only [World.cell?, hh, Nat.zero_add]
            simpa using hg
          · simp only [World.frozen?, hh, Nat.zero_add]
            simp
        have hzz : ∀ c, (Z c ∨ c ∈ lr) → c < w.heap.size ∧ c ≠ b := fun c hc => by
          rcases hc with hc | hc
          · exact ⟨hZ c hc, fun e => hb0.1 (e ▸ hc)⟩
          · exact ⟨(hl c (by simp [hc])).2, fun e => hbn (e ▸ hc)⟩
        have hcm : CmpLays1 P g #[] (fun p : {p : Value × β // p.1.oneCell' = true ∧ Sh w (fun c => Z c ∨ c ∈ lr) (f p.2) p.1 ∧ p.2 ∈ xs} => p.1.1) (fun a b => cf a.1.2 b.1.2) b 0 ps.toArray.size w := fun m os dk hdk x y => by
          have hX := sortW_ext (fun p : {p : Value × β // p.1.oneCell' = true ∧ Sh w (fun c => Z c ∨ c ∈ lr) (f p.2) p.1 ∧ p.2 ∈ xs} => p.1.1) w b m dk os
          generalize sortWorld (fun p : {p : Value × β // p.1.oneCell' = true ∧ Sh w (fun c => Z c ∨ c ∈ lr) (f p.2) p.1 ∧ p.2 ∈ xs} => p.1.1) w b 0 m dk os = W at hX ⊢
          have hkeep : ∀ c, (Z c ∨ c ∈ lr) → W.heap[c]? = w.heap[c]? := fun c hc => hX.keep c (hzz c hc).1 (hzz c hc).2
          have hr := hcmp x.1.2 x.2.2.2 y.1.2 y.2.2.2 W (fun c => Z c ∨ c ∈ lr) [x.1.1, y.1.1] [] (fun gg vs hgg => by
            obtain ⟨h1, e, fr, h2⟩ := hG gg vs hgg
            exact ⟨.inl h1, e, fr, (hkeep gg (.inl h1)).trans h2⟩) (fun c hc => Nat.lt_of_lt_of_le (hzz c hc).1 hX.size)
            ⟨[], [], ⟨x.2.2.1.frame (fun _ h => h) hkeep, rfl⟩, ⟨[], [], ⟨y.2.2.1.frame (fun _ h => h) hkeep, rfl⟩, rfl, rfl⟩, rfl⟩ .nil (by simp)
          unfold Goes at hr
          rw [eg] at hr
          show Calls P g (#[x.1.1, y.1.1] ++ #[]) W _
          rw [Array.append_empty]
          refine hr.mono fun e w' he => ?_
          cases e with
          | returned v =>
            obtain ⟨Z2, lr2, lo2, hx2, -, -, hv2, -⟩ := he
            have hv2 : Ow w' Z2 (.c (.int .i64 (cf x.1.2 y.1.2))) v lr2 := hv2
            obtain ⟨q, os2, hw2⟩ := hx2.grown (by simp)
            cases hv2
            exact ⟨rfl, q, os2, hw2⟩
          | _ => exact he.elim
        have hO2 : Go.Sort.SWO (ltOf fun a b : {p : Value × β // p.1.oneCell' = true ∧ Sh w (fun c => Z c ∨ c ∈ lr) (f p.2) p.1 ∧ p.2 ∈ xs} => cf a.1.2 b.1.2) :=
          ⟨fun a => hO.irrefl a.1.2, fun a b c => hO.trans a.1.2 b.1.2 c.1.2, fun a b c => hO.ntrans a.1.2 b.1.2 c.1.2⟩
        have hsz : ps.toArray.size = xs.length := by simpa using hpl
        have hS := Any.slices_SortFunc L _ (fun p => p.2.1) _ hO2 g #[] b 0 cap ps.toArray w eg hcm hHo hb0.2 (by rw [hsz]; exact hn)
        rw [hsz] at hS
        refine hS.mono fun e w' he => ?_
        obtain ⟨rfl, d', m, os, hperm, hsort, rfl⟩ := he
        rw [← hsz] at hperm hsort
        have hpm := permIn_perm hperm
        have hpw := sortedIn_pw (by rw [hperm.1]; exact hsort)
        have hds : d'.size = xs.length := hperm.1.trans hsz
        have hX := sortW_ext (fun p : {p : Value × β // p.1.oneCell' = true ∧ Sh w (fun c => Z c ∨ c ∈ lr) (f p.2) p.1 ∧ p.2 ∈ xs} => p.1.1) w b m d' os
        have hAt := sortW_at (fun p : {p : Value × β // p.1.oneCell' = true ∧ Sh w (fun c => Z c ∨ c ∈ lr) (f p.2) p.1 ∧ p.2 ∈ xs} => p.1.1) w b m d' os hh
        have hTk := putCells_take (fun p : {p : Value × β // p.1.oneCell' = true ∧ Sh w (fun c => Z c ∨ c ∈ lr) (f p.2) p.1 ∧ p.2 ∈ xs} => p.1.1) d' cur (by rw [hds, hroom]; omega)
        have hPs := putCells_size (fun p : {p : Value × β // p.1.oneCell' = true ∧ Sh w (fun c => Z c ∨ c ∈ lr) (f p.2) p.1 ∧ p.2 ∈ xs} => p.1.1) d' cur
        generalize sortWorld (fun p : {p : Value × β // p.1.oneCell' = true ∧ Sh w (fun c => Z c ∨ c ∈ lr) (f p.2) p.1 ∧ p.2 ∈ xs} => p.1.1) w b 0 m d' os = W at hX hAt ⊢
        have hys : d'.toList.map (fun p => f p.1.2) = ys.map f := by
          have hq := hpm.map fun p => p.1.2
          rw [hp1] at hq
          have := hU (d'.toList.map fun p => p.1.2) hq (by rw [List.pairwise_map]; exact hpw)
          rwa [List.map_map] at this
        have hc2 : Ows w noZ ((ps.map fun p => (f p.1.2, p.1.1)).map (·.1)) ((ps.map fun p => (f p.1.2, p.1.1)).map (·.2)) lr := by
          rw [List.map_map, List.map_map]
          have e1 : ps.map ((fun q : Cell × Value => q.1) ∘ fun p => (f p.1.2, p.1.1)) = xs.map f := by
            have := congrArg (List.map f) hp1
            rwa [List.map_map] at this
          have e2 : ps.map ((fun q : Cell × Value => q.2) ∘ fun p => (f p.1.2, p.1.1)) = vs := hp2
          rw [e1, e2]
          exact hc
        obtain ⟨m2, hm2, hc3⟩ := Ows.perm (hpm.map fun p => (f p.1.2, p.1.1)) hc2
        rw [List.map_map, List.map_map] at hc3
        have hc4 : Ows W noZ (ys.map f) (d'.toList.map fun p => p.1.1) m2 := by
          rw [← hys]
          exact hc3.frame (fun _ h => h) (fun _ h => h.elim) fun c hc => hX.keep c (hzz c (.inr (hm2.mem_iff.1 hc))).1 (hzz c (.inr (hm2.mem_iff.1 hc))).2
        have hyl : (ys.map f).length = xs.length := by rw [← hys, List.length_map]; simpa using hds
        refine ⟨_, rfl, Z, [], b :: m2, hX.mono fun c hc => by simp [hc], fun _ h => h, fun _ h => .inl h, ⟨_, rfl, rfl⟩, ⟨_, _, b :: m2, [], rfl, ?_, ⟨rfl, rfl⟩, by simp⟩, ?_, fun c hc => ?_⟩
        · refine .sl hAt (by rw [hyl, Nat.mul_one]) (by rw [hPs]; exact hroom) hcap hmax rfl ?_
          rw [Nat.mul_one, ← hds, hTk]
          exact hc4
        · exact List.nodup_cons.2 ⟨fun hb => hbn (hm2.mem_iff.1 hb), hm2.nodup_iff.2 hlrn⟩
        · rcases List.mem_cons.1 hc with rfl | hc
          · exact ⟨hb0.1, Nat.lt_of_lt_of_le hb0.2 hX.size, .inl hbl⟩
          · have h1 := hl c (by simp [hm2.mem_iff.1 hc])
            exact ⟨h1.1, Nat.lt_of_lt_of_le h1.2 hX.size, .inl (by simp [hm2.mem_iff.1 hc])⟩
end Go.Den

/- The kit's contract of slices.Sort at whole numbers as a promise on trees. -/
namespace Go.Den
open Go.Proofs Go.Shelf
theorem Ows.plain {w : World} {Z : Nat → Prop} (k : IntKind) : ∀ {xs : List Int} {vs : List Value} {l : List Nat}, Ows w Z (xs.map fun x => .c (.int k x)) vs l → vs = xs.map (.int k) ∧ l = []
  | [], _, _, h => by
    cases h
    exact ⟨rfl, rfl⟩
  | x :: xs, _, _, h => by
    cases h with
    | cons h t =>
      obtain ⟨e1, e2⟩ := Ows.plain k t
      cases h
      rw [e1, e2]
      exact ⟨rfl, rfl⟩
theorem Ows.of_ints (w : World) (Z : Nat → Prop) (k : IntKind) : ∀ (xs : List Int), Ows w Z (xs.map fun x => .c (.int k x)) (xs.map (.int k)) []
  | [] => .nil _
  | x :: xs => by
    have := Ows.cons (Ow.c (W := w) Z (.int k x)) (Ows.of_ints w Z k xs)
    simpa using this
/-- slices.Sort at int64. -/
theorem sortIntsR {P : Program} {ρ : Ren} {G : Nat → Option (List Value)} (L : SlLaysM.n5 P ρ) (es : ∀ args w, (callFunc (ρ.f 5) args).run P w = .ok (.enter (ρ.f 5) args) w) (xs : List Int) (hn : xs.length < 4611686018427387904) :
    Ret P G (ρ.f 5) [⟨.mu, .one (.sl false 1 xs.length (xs.map fun x => .c (.int .i64 x)))⟩] ⟨.tup [], [.one (.sl false 1 xs.length ((xs.mergeSort fun x y => decide (x ≤ y)).map fun x => .c (.int .i64 x)))]⟩ := by
  have cov : ∀ (v1 : Value) (w : World) (R : Value → World → Prop), Calls P (ρ.f 5) #[v1] w (fun e w' => ∃ v, e = .returned v ∧ R v w') → Goes P (ρ.f 5) [v1].toArray w R := fun v1 w R h => by
    unfold Goes
    rw [es]
    refine h.mono fun e w' he => ?_
    obtain ⟨v, rfl, hv⟩ := he
    exact hv
  intro w Z vs l hG hZ ha hnd hl
  match vs, ha with
  | [v1], ha =>
    obtain ⟨l1, l2, h1, h2, rfl⟩ := ha
    have e2 : l2 = [] := h2
    subst e2
    simp only [List.append_nil] at hnd hl ⊢
    have h1 : Ow w Z (.sl false 1 xs.length (xs.map fun x => .c (.int .i64 x))) v1 l1 := h1
    refine cov _ _ _ ?_
    have hlen2 : (xs.mergeSort fun x y => decide (x ≤ y)).length = xs.length := List.length_mergeSort xs
    generalize hcs : xs.map (fun x => Cell.c (.int .i64 x)) = cs at h1
    generalize hnn : xs.length = n at h1
    cases h1 with
    | nil =>
      have hx : xs = [] := List.eq_nil_of_length_eq_zero hnn
      subst hx
      refine (AnyM.slices_Sort_int_none L none 0 w).mono fun e w' he => ?_
      obtain ⟨rfl, rfl⟩ := he
      exact ⟨_, rfl, Z, [], [], Ext.refl _ _, fun _ h => h, fun _ h => .inl h, ⟨_, rfl, rfl⟩, ⟨_, _, [], [], rfl, by rw [List.mergeSort_nil]; exact .nil _ _ _, ⟨rfl, rfl⟩, rfl⟩, by simp, fun b hb => by simp at hb⟩
    | sl hh hlen hroom hcap hmax hv hc =>
      rename_i cap b cur e vs lr
      subst hnn hcs
      obtain ⟨hb1, hlr⟩ := Ows.plain .i64 hc
      subst hlr
      have hb0 := hl b (by simp)
      have hHo : Go.Sort.Holds (Value.int .i64) w b 0 xs.toArray := fun j hj => by
        have hj' : j < xs.length := by simpa using hj
        have h1 : (cur.toList.take (xs.length * 1))[j]? = some (.int .i64 xs[j]) := by
          rw [← hv, hb1, List.getElem?_map, List.getElem?_eq_getElem hj']
          rfl
        rw [List.getElem?_take, if_pos (by omega)] at h1
        rw [getElem!_pos xs.toArray j hj]
        constructor
        · simp only [World.cell?, hh, Nat.zero_add]
          simpa using h1
        · simp only [World.frozen?, hh, Nat.zero_add]
          simp
      refine (AnyM.slices_Sort_int L b 0 cap xs w hHo hb0.2 hn).mono fun e w' he => ?_
      obtain ⟨rfl, m, os, rfl⟩ := he
      generalize hys : (xs.mergeSort fun x y => decide (x ≤ y)) = ys at hlen2
      have hX := sortW_ext (Value.int .i64) w b m ys.toArray os
      have hAt := sortW_at (Value.int .i64) w b m ys.toArray os hh
      have hTk := putCells_take (Value.int .i64) ys.toArray cur (by rw [hroom]; simp [hlen2]; omega)
      have hPs := putCells_size (Value.int .i64) ys.toArray cur
      change Ext _ w (Go.Sort.grow (Go.Sort.putRow (Value.int .i64) (Go.Sort.ahead w m) b 0 ys.toArray) os) at hX
      change (Go.Sort.grow (Go.Sort.putRow (Value.int .i64) (Go.Sort.ahead w m) b 0 ys.toArray) os).heap[b]? = _ at hAt
      generalize Go.Sort.grow (Go.Sort.putRow (Value.int .i64) (Go.Sort.ahead w m) b 0 ys.toArray) os = W at hX hAt ⊢
      refine ⟨_, rfl, Z, [], [b], hX.mono fun c hc => by simp [hc], fun _ h => h, fun _ h => .inl h, ⟨_, rfl, rfl⟩, ⟨_, _, [b], [], rfl, ?_, ⟨rfl, rfl⟩, by simp⟩, by simp, fun c hc => ?_⟩
      · refine .sl hAt (by rw [List.length_map, hlen2, Nat.mul_one]) (by rw [hPs]; exact hroom) hcap hmax rfl ?_
        have : (Go.Sort.putCells (Value.int .i64) 0 ys.toArray cur).toList.take (xs.length * 1) = ys.map (.int .i64) := by
          rw [Nat.mul_one, ← hlen2]
          simpa using hTk
        rw [this]
        exact Ows.of_ints _ _ _ _
      · have hc : c = b := by simpa using hc
        subst hc
        exact ⟨hb0.1, Nat.lt_of_lt_of_le hb0.2 hX.size, .inl (by simp)⟩
end Go.Den
