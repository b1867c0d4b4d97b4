import Derived.Test.YtihdeagknggeiaaDoorFv
set_option autoImplicit false
set_option linter.unusedSimpArgs false
set_option linter.unusedVariables false
namespace Go.Proofs.YtihdeagknggeiaaDoor
open Go.Den
/-! Numbers of traces and the clique polynomial. D: which letters depend on each other; M: letters that must not come first. -/
def smN (f : Nat → Nat) : Nat → Nat
  | 0 => 0
  | n + 1 => smN f n + f n
def aftB (D : Nat → Nat → Bool) (M : Nat → Bool) (c : Nat) : Nat → Bool := fun b => (M b || decide (b < c)) && !D c b
def cntB (n : Nat) (D : Nat → Nat → Bool) : Nat → (Nat → Bool) → Nat
  | 0, _ => 1
  | m + 1, M => smN (fun c => if M c then 0 else cntB n D m (aftB D M c)) n
def addB (M : Nat → Bool) (a : Nat) : Nat → Bool := fun b => M b || decide (b = a)
def subB (M K : Nat → Bool) : Nat → Bool := fun b => M b && !K b
theorem smN_congr {f g : Nat → Nat} : ∀ n, (∀ c < n, f c = g c) → smN f n = smN g n
  | 0, _ => rfl
  | n + 1, h => by rw [smN, smN, smN_congr n (fun c hc => h c (by omega)), h n (by omega)]
theorem smN_zero : ∀ n, smN (fun _ => 0) n = 0
  | 0 => rfl
  | n + 1 => by rw [smN, smN_zero n]
theorem smN_le {f : Nat → Nat} {c : Nat} : ∀ n, c < n → f c ≤ smN f n
  | 0, h => by omega
  | n + 1, h => by
    rw [smN]
    by_cases e : c = n
    · subst e; omega
    · have := smN_le (f := f) n (show c < n by omega)
      omega
/-- Letters that must not come first are told one by one. -/
theorem cntB_add {n : Nat} {D : Nat → Nat → Bool} (hs : ∀ a b, D a b = D b a) : ∀ (m : Nat) {M : Nat → Bool} {a : Nat}, a < n → M a = false → cntB n D (m + 1) M = cntB n D (m + 1) (addB M a) + cntB n D m (subB M (D a)) := by
  intro m
  induction m with
  | zero =>
    intro M a ha hM
    have key : ∀ j, j ≤ n → smN (fun c => if M c then 0 else cntB n D 0 (aftB D M c)) j = smN (fun c => if addB M a c then 0 else cntB n D 0 (aftB D (addB M a) c)) j + (if a < j then 1 else 0) := by
      intro j
      induction j with
      | zero => intro _; simp [smN]
      | succ j ih =>
        intro hj
        have ih' := ih (by omega)
        rw [smN, smN, ih']
        generalize smN (fun c => if addB M a c then 0 else cntB n D 0 (aftB D (addB M a) c)) j = q
        simp only [cntB]
        by_cases e : j = a
        · have h1 : addB M a j = true := by simp [addB, e]
          have h2 : M j = false := by rw [e]; exact hM
          rw [h1, h2, if_neg (show ¬ a < j by omega), if_pos (show a < j + 1 by omega)]
          simp
        · have h1 : addB M a j = M j := by simp [addB, e]
          rw [h1]
          by_cases h : a < j
          · rw [if_pos h, if_pos (show a < j + 1 by omega)]; omega
          · rw [if_neg h, if_neg (show ¬ a < j + 1 by omega)]; omega
    have := key n (Nat.le_refl _)
    rw [if_pos ha] at this
    exact this
  | succ m ih =>
    intro M a ha hM
    let X : Nat → Nat := fun j => cntB n D (m + 1) (subB (fun b => M b || decide (b < j)) (D a))
    have hstep : ∀ c, c < a → (if M c then 0 else cntB n D (m + 1) (aftB D M c)) + X (c + 1) = (if addB M a c then 0 else cntB n D (m + 1) (aftB D (addB M a) c)) + X c := by
      intro c hc
      have hac : addB M a c = M c := by
        have : ¬ c = a := by omega
        simp [addB, this]
      rw [hac]
      by_cases hMc : M c = true
      · have : X (c + 1) = X c := by
          show cntB n D (m + 1) _ = cntB n D (m + 1) _
          congr 1
          funext b
          unfold subB
          dsimp only
          by_cases e : b = c
          · subst e; simp [hMc]
          · have : decide (b < c + 1) = decide (b < c) := by rw [decide_eq_decide]; omega
            rw [this]
        rw [if_pos hMc, if_pos hMc, this]
      · have hMc : M c = false := by simpa using hMc
        rw [hMc, if_neg (by simp), if_neg (by simp)]
        by_cases hd : D a c = true
        · have h1 : X (c + 1) = X c := by
            show cntB n D (m + 1) _ = cntB n D (m + 1) _
            congr 1
            funext b
            unfold subB
            dsimp only
            by_cases e : b = c
            · subst e; simp [hd]
            · have : decide (b < c + 1) = decide (b < c) := by rw [decide_eq_decide]; omega
              rw [this]
          have h2 : aftB D (addB M a) c = aftB D M c := by
            funext b
            unfold aftB addB
            by_cases e : b = a
            · subst e; rw [hs c b, hd]; simp
            · simp [e]
          rw [h1, h2]
        · have hd : D a c = false := by simpa using hd
          have h1 := ih (M := aftB D M c) (a := a) ha (by
            unfold aftB
            rw [hM, decide_eq_false (by omega : ¬ a < c)]
            rfl)
          have h2 : addB (aftB D M c) a = aftB D (addB M a) c := by
            funext b
            unfold aftB addB
            by_cases e : b = a
            · subst e; rw [hs c b, hd]; simp
            · simp [e]
          have h3 := ih (M := subB (fun b => M b || decide (b < c)) (D a)) (a := c) (by omega) (by
            unfold subB
            dsimp only
            rw [hMc, decide_eq_false (by omega : ¬ c < c)]
            rfl)
          have h4 : addB (subB (fun b => M b || decide (b < c)) (D a)) c = subB (fun b => M b || decide (b < c + 1)) (D a) := by
            funext b
            unfold addB subB
            dsimp only
            by_cases e : b = c
            · subst e; simp [hd]
            · have : decide (b < c + 1) = decide (b < c) := by rw [decide_eq_decide]; omega
              rw [this]
              simp [e]
          have h5 : subB (subB (fun b => M b || decide (b < c)) (D a)) (D c) = subB (aftB D M c) (D a) := by
            funext b
            unfold subB aftB
            dsimp only
            cases M b || decide (b < c) <;> cases D a b <;> cases D c b <;> rfl
          rw [h2] at h1
          rw [h4, h5] at h3
          show cntB n D (m + 1) (aftB D M c) + X (c + 1) = cntB n D (m + 1) (aftB D (addB M a) c) + X c
          have h6 : X c = X (c + 1) + cntB n D m (subB (aftB D M c) (D a)) := h3
          omega
    have hlow : ∀ j, j ≤ a → smN (fun c => if M c then 0 else cntB n D (m + 1) (aftB D M c)) j + X j = smN (fun c => if addB M a c then 0 else cntB n D (m + 1) (aftB D (addB M a) c)) j + X 0 := by
      intro j
      induction j with
      | zero => intro _; rfl
      | succ j ihj =>
        intro hj
        have h1 := ihj (by omega)
        have h2 := hstep j (by omega)
        rw [smN, smN]
        omega
    have hXa : X a = cntB n D (m + 1) (aftB D M a) := rfl
    have hX0 : X 0 = cntB n D (m + 1) (subB M (D a)) := by
      show cntB n D (m + 1) _ = _
      congr 1
      funext b
      simp [subB]
    have hhigh : ∀ j, a + 1 ≤ j → j ≤ n → smN (fun c => if M c then 0 else cntB n D (m + 1) (aftB D M c)) j = smN (fun c => if addB M a c then 0 else cntB n D (m + 1) (aftB D (addB M a) c)) j + X 0 := by
      intro j
      induction j with
      | zero => intro h; omega
      | succ j ihj =>
        intro h1 h2
        rw [smN, smN]
        by_cases e : j = a
        · subst e
          have h3 := hlow j (Nat.le_refl _)
          have h4 : addB M j j = true := by simp [addB]
          rw [hM, h4, if_neg (by simp), if_pos rfl]
          omega
        · have h3 := ihj (by omega) (by omega)
          have h4 : addB M a j = M j := by simp [addB, e]
          have h5 : aftB D (addB M a) j = aftB D M j := by
            funext b
            unfold aftB addB
            by_cases e2 : b = a
            · subst e2
              rw [decide_eq_true (by omega : b < j)]
              simp
            · simp [e2]
          rw [h4, h5, h3]
          omega
    have := hhigh n (by omega) (Nat.le_refl _)
    rw [hX0] at this
    exact this
/-- Sets of k letters of a list that are independent of each other and not blocked. -/
def indB (D : Nat → Nat → Bool) : List Nat → (Nat → Bool) → Nat → Nat
  | _, _, 0 => 1
  | [], _, _ + 1 => 0
  | a :: l, B, k + 1 => indB D l B (k + 1) + if B a then 0 else indB D l (fun b => B b || D a b) k
def smI (f : Nat → Int) : Nat → Int
  | 0 => 0
  | n + 1 => smI f n + f n
theorem smI_congr {f g : Nat → Int} : ∀ n, (∀ c < n, f c = g c) → smI f n = smI g n
  | 0, _ => rfl
  | n + 1, h => by rw [smI, smI, smI_congr n (fun c hc => h c (by omega)), h n (by omega)]
theorem smI_add (f g : Nat → Int) : ∀ n, smI (fun k => f k + g k) n = smI f n + smI g n
  | 0 => rfl
  | n + 1 => by
    rw [smI, smI, smI, smI_add f g n]
    omega
theorem smI_neg (f : Nat → Int) : ∀ n, smI (fun k => - f k) n = - smI f n
  | 0 => rfl
  | n + 1 => by
    rw [smI, smI, smI_neg f n]
    omega
theorem smI_front (f : Nat → Int) : ∀ n, smI f (n + 1) = f 0 + smI (fun k => f (k + 1)) n
  | 0 => by simp [smI]
  | n + 1 => by
    rw [smI, smI_front f n, smI]
    omega
/-- (-1)^k -/
def sgn : Nat → Int
  | 0 => 1
  | k + 1 => - sgn k
def setB (l : List Nat) (B : Nat → Bool) : Nat → Bool := fun b => decide (b ∈ l) && !B b
theorem cnt_poly {n : Nat} {D : Nat → Nat → Bool} (hs : ∀ a b, D a b = D b a) : ∀ (l : List Nat) (B : Nat → Bool) (m : Nat), l.Nodup → (∀ a ∈ l, a < n) → (cntB n D m (setB l B) : Int) = smI (fun k => sgn k * ((indB D l B k : Nat) : Int) * ((cntB n D (m - k) (fun _ => false) : Nat) : Int)) (m + 1)
  | [], B, m, _, _ => by
    have h0 : setB [] B = fun _ => false := by funext b; simp [setB]
    rw [h0, smI_front]
    have h1 : smI (fun k => sgn (k + 1) * ((indB D [] B (k + 1) : Nat) : Int) * ((cntB n D (m - (k + 1)) (fun _ => false) : Nat) : Int)) m = 0 := by
      rw [smI_congr (g := fun _ => 0) m (fun c _ => by simp [indB])]
      have : ∀ q, smI (fun _ => 0) q = 0 := fun q => by
        induction q with
        | zero => rfl
        | succ q ih => rw [smI, ih]; rfl
      exact this m
    rw [h1]
    simp [sgn, indB]
  | a :: l, B, m, hn, hl => by
    have ih1 := cnt_poly hs l B m (List.nodup_cons.1 hn).2 fun b hb => hl b (List.mem_cons_of_mem _ hb)
    by_cases hB : B a = true
    · have h0 : setB (a :: l) B = setB l B := by
        funext b
        unfold setB
        by_cases e : b = a
        · subst e; simp [hB]
        · simp [e]
      rw [h0, ih1]
      refine smI_congr _ fun k _ => ?_
      cases k with
      | zero => cases l <;> simp [indB]
      | succ k =>
        rw [indB, if_pos hB]
        rfl
    · have hB : B a = false := by simpa using hB
      cases m with
      | zero =>
        show ((1 : Nat) : Int) = _
        simp [smI, sgn, indB, cntB]
      | succ m =>
        have hM : setB l B a = false := by
          unfold setB
          rw [decide_eq_false (List.nodup_cons.1 hn).1]
          rfl
        have h1 := cntB_add hs m (M := setB l B) (hl a (by simp)) hM
        have h2 : addB (setB l B) a = setB (a :: l) B := by
          funext b
          unfold addB setB
          by_cases e : b = a
          · subst e; simp [hB]
          · simp [e]
        have h3 : subB (setB l B) (D a) = setB l (fun b => B b || D a b) := by
          funext b
          unfold subB setB
          dsimp only
          cases decide (b ∈ l) <;> cases B b <;> cases D a b <;> rfl
        rw [h2, h3] at h1
        have ih2 := cnt_poly hs l (fun b => B b || D a b) m (List.nodup_cons.1 hn).2 fun b hb => hl b (List.mem_cons_of_mem _ hb)
        have h4 : (cntB n D (m + 1) (setB (a :: l) B) : Int) = cntB n D (m + 1) (setB l B) - cntB n D m (setB l fun b => B b || D a b) := by omega
        rw [h4, ih1, ih2, smI_front, smI_front (fun k => sgn k * ((indB D (a :: l) B k : Nat) : Int) * _)]
        have h5 : smI (fun k => sgn (k + 1) * ((indB D (a :: l) B (k + 1) : Nat) : Int) * ((cntB n D (m + 1 - (k + 1)) (fun _ => false) : Nat) : Int)) (m + 1) = smI (fun k => sgn (k + 1) * ((indB D l B (k + 1) : Nat) : Int) * ((cntB n D (m + 1 - (k + 1)) (fun _ => false) : Nat) : Int)) (m + 1) - smI (fun k => sgn k * ((indB D l (fun b => B b || D a b) k : Nat) : Int) * ((cntB n D (m - k) (fun _ => false) : Nat) : Int)) (m + 1) := by
          rw [Int.sub_eq_add_neg, ← smI_neg, ← smI_add]
          refine smI_congr _ fun k _ => ?_
          rw [indB, if_neg (by rw [hB]; simp), show m + 1 - (k + 1) = m - k by omega, sgn]
          rw [Int.natCast_add, Int.mul_add, Int.add_mul, Int.neg_mul, Int.neg_mul, Int.neg_mul]
          simp [Int.neg_mul]
        rw [h5]
        have h6 : indB D (a :: l) B 0 = 1 := by simp [indB]
        have h7 : indB D l B 0 = 1 := by cases l <;> simp [indB]
        rw [h6, h7]
        omega
/-- All letters from n - 1 down. -/
def dnL : Nat → List Nat
  | 0 => []
  | n + 1 => n :: dnL n
theorem dnL_mem : ∀ {n b : Nat}, b ∈ dnL n ↔ b < n
  | 0, b => by simp [dnL]
  | n + 1, b => by
    rw [dnL, List.mem_cons, dnL_mem]
    omega
theorem dnL_nodup : ∀ n, (dnL n).Nodup
  | 0 => .nil
  | n + 1 => List.nodup_cons.2 ⟨fun h => by have := dnL_mem.1 h; omega, dnL_nodup n⟩
/-- How many traces there are with m letters. -/
def trc (n : Nat) (D : Nat → Nat → Bool) (m : Nat) : Nat := cntB n D m fun _ => false
theorem trc_rec {n : Nat} {D : Nat → Nat → Bool} (hs : ∀ a b, D a b = D b a) (m : Nat) : (trc n D (m + 1) : Int) = - smI (fun k => sgn (k + 1) * ((indB D (dnL n) (fun _ => false) (k + 1) : Nat) : Int) * ((trc n D (m - k) : Nat) : Int)) (m + 1) := by
  have h := cnt_poly hs (dnL n) (fun _ => false) (m + 1) (dnL_nodup n) fun a ha => dnL_mem.1 ha
  have h0 : cntB n D (m + 1) (setB (dnL n) fun _ => false) = 0 := by
    show smN _ n = 0
    rw [smN_congr (g := fun _ => 0) n fun c hc => by rw [if_pos]; simp [setB, dnL_mem, hc]]
    exact smN_zero n
  rw [h0, smI_front] at h
  have h1 : indB D (dnL n) (fun _ => false) 0 = 1 := by cases n <;> simp [dnL, indB]
  rw [h1] at h
  have h2 : smI (fun k => sgn (k + 1) * ((indB D (dnL n) (fun _ => false) (k + 1) : Nat) : Int) * ((cntB n D (m + 1 - (k + 1)) (fun _ => false) : Nat) : Int)) (m + 1) = smI (fun k => sgn (k + 1) * ((indB D (dnL n) (fun _ => false) (k + 1) : Nat) : Int) * ((trc n D (m - k) : Nat) : Int)) (m + 1) := smI_congr _ fun k _ => by rw [show m + 1 - (k + 1) = m - k by omega]; rfl
  rw [h2] at h
  rw [show sgn 0 = 1 from rfl, show m + 1 - 0 = m + 1 from rfl, Int.natCast_one, Int.one_mul, Int.one_mul] at h
  unfold trc at h ⊢
  omega
theorem trc_mono {n : Nat} {D : Nat → Nat → Bool} (h0 : 0 < n) (m : Nat) : trc n D m ≤ trc n D (m + 1) := by
  unfold trc
  have := smN_le (f := fun c => if (fun _ => false : Nat → Bool) c then 0 else cntB n D m (aftB D (fun _ => false) c)) n h0
  refine Nat.le_trans ?_ this
  rw [if_neg (by simp)]
  have : aftB D (fun _ => false) 0 = fun _ => false := by funext b; simp [aftB]
  rw [this]
  exact Nat.le_refl _
end Go.Proofs.YtihdeagknggeiaaDoor
