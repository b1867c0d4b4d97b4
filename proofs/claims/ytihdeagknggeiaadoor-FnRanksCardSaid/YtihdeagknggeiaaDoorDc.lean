import Derived.Test.YtihdeagknggeiaaDoorDb
import Derived.Laws.BytesArg
import Derived.Laws.OwnMore
set_option autoImplicit false
set_option linter.unusedSimpArgs false
set_option linter.unusedVariables false
/- Operations on values alone. -/
namespace Go.Den

section
variable {P : Program} {E : Env} {o : Oper}

theorem ok_unOp {op : UnOp} {ty : TypeId} {x : Operand} (ho : o.op = .unOp op ty x) : OpOK P E o := by
  intro w0 B Z0 gv s a w Z RV L r t K Q hd h hw
  simp only [astep, ho] at hw
  obtain ⟨r', hw⟩ := opV_sound hw h
  generalize hv : a.eval x = v at hw
  unfold unV at hw
  split at hw
  · exact fin_value hd h hw (.c _) (by simp [execOp, ho, hv, Op.unary, Op.intArith])
  · exact fin_value hd h hw (.c _) (by simp only [execOp, ho, hv, Op.unary, Op.intBits]; rfl)
  · exact fin_value hd h hw (.c _) (by simp [execOp, ho, hv, Op.unary])
  · exact hw.elim

theorem run_equal_slice {ty e : TypeId} (hu : P.underlying ty = some (.slice e)) (A : Option Addr) (n c n' c' : Nat) (w : World) :
    (Op.equal ty (.slice A n c) (.slice none n' c')).run P w = .ok A.isNone w := by
  show (Op.equalIn (9999 + 1) ty _ _).run P w = _
  rw [Op.equalIn]
  cases A <;> simp [run_underlying hu]
theorem isSlD_spec {T : TypeId → Option Ty} (hT : TabOK P T) {t : TypeId} (h : isSlD (T t) = true) : ∃ e, P.underlying t = some (.slice e) := by
  unfold isSlD at h
  split at h
  · rename_i e sz by_ z ht
    exact ⟨e, (hT _ _ ht).1⟩
  · cases h
theorem eqNil_sound {w0 : World} {B Z0 : Nat → Prop} {gv : List Value} {s : List Ent} {a : Act} {w : World} {Z : Nat → Prop} {RV : Nat → Nat → Value} {L : Nat → Nat → List Nat}
    {C : FuncId → List Arg → Res → Prop} {r t : List Nat} {α : Type} {K : α → List Ent → List Nat → List Nat → Prop} (h : At E w0 B Z0 gv s a w Z RV L) {x : Cell} {V : Value} {k : Bool → AM α}
    (hc : SCell w Z (rOf s) RV x V) (hw : wp C (eqNilAM x k) s r t K) : ∃ A n c r', V = .slice A n c ∧ wp C (k A.isNone) s r' t K := by
  cases x with
  | c v =>
    have e1 := scell_c hc
    subst e1
    cases V with
    | slice A n c => exact ⟨A, n, c, r, rfl, hw⟩
    | _ => exact hw.elim
  | sl es sz n cs =>
    simp only [eqNilAM, wp_test] at hw
    rcases (scell_sl hc).sl_inv with ⟨A, cap, vs, e1, -⟩ | ⟨-, rfl, -⟩
    · exact ⟨_, n, cap, r, e1, hw.2⟩
    · exact absurd hw.1 (by omega)
  | hd rr i k =>
    simp only [eqNilAM] at hw
    obtain ⟨y, r', hlt, hx, hok, hw2⟩ := atP_sound hw
    clear hw
    rcases name_value h hc hx hok with ⟨rfl, rfl, hrc⟩ | ⟨hn, hh, hp, l, ho, hl⟩
    · cases y with
      | sl es sz n cs =>
        simp only [wp_test] at hw2
        obtain ⟨b, cap, cur, e, e1, -⟩ := Ow.any_ne hrc (by omega)
        exact ⟨_, n, cap, r', e1, hw2.2⟩
      | shd z =>
        cases z with
        | sl es sz n cs =>
          simp only [wp_test] at hw2
          rcases (Ow.shd_inv hrc).2.sl_inv with ⟨A, cap, vs, e1, -⟩ | ⟨-, rfl, -⟩
          · exact ⟨_, n, cap, r', e1, hw2.2⟩
          · exact absurd hw2.1 (by omega)
        | _ => exact hw2.elim
      | _ => exact hw2.elim
    · cases y with
      | sl es sz n cs =>
        simp only [wp_test] at hw2
        obtain ⟨b, cap, cur, e, e1, -⟩ := ho.any_ne (by omega)
        exact ⟨_, n, cap, r', e1, hw2.2⟩
      | shd z => simp [isHdr] at hh
      | _ => exact hw2.elim
  | _ => exact hw.elim

theorem ok_binOp (hT : TabOK P E.T) {op : BinOp} {ty ty' : TypeId} {x y : Operand} (ho : o.op = .binOp op ty x y ty') : OpOK P E o := by
  intro w0 B Z0 gv s a w Z RV L r t K Q hd h hw
  simp only [astep, ho] at hw
  obtain ⟨c, r', hc, hw⟩ := opC_sound hw h
  obtain ⟨d, r', hdc, hw⟩ := opC_sound hw h
  split at hw
  rotate_left
  · rename_i u v _
    have e1 := scell_c hc
    have e2 := scell_c hdc
    obtain ⟨z, hz, hw⟩ := binV_sound (P := P) hw ty (fun hb => by
      cases ht : E.T ty with
      | none => simp [ht] at hb
      | some d => simp [ht] at hb; rw [← hb]; exact (hT _ _ ht).1) w x y
    refine fin_value hd h hw (.c _) ?_
    simp only [execOp, ho, e1, e2]
    rw [Sem.run_bind, hz]
    rfl
  · exact hw.elim
  · rename_i n m
    have e2 := scell_c hdc
    by_cases hsl : isSlD (E.T ty) = true
    · simp only [hsl, if_true] at hw
      obtain ⟨e, hu⟩ := isSlD_spec hT hsl
      split at hw
      · obtain ⟨A, n', c', r', e1, hw⟩ := eqNil_sound h hc hw
        exact fin_value hd h hw (.c _) (by simp [execOp, ho, e1, e2, eqGuard, Go.binOp, run_equal_slice hu])
      · obtain ⟨A, n', c', r', e1, hw⟩ := eqNil_sound h hc hw
        exact fin_value hd h hw (.c _) (by simp [execOp, ho, e1, e2, eqGuard, Go.binOp, run_equal_slice hu])
      · exact hw.elim
    · simp only [hsl] at hw
      exact hw.elim

theorem isByD_spec {T : TypeId → Option Ty} (hT : TabOK P T) {d : TypeDesc} (h : isByD T d = true) : ∃ e, d = .slice e ∧ P.underlying e = some (.int .u8) := by
  unfold isByD at h
  split at h
  · rename_i e
    split at h
    · rename_i ht
      exact ⟨e, rfl, (hT _ _ ht).1⟩
    · cases h
  · cases h
theorem bytes_of (b : ByteArray) : strOfNums (b.data.toList.map fun u => (u.toNat : Int)) = b := by
  unfold strOfNums
  congr 1
  apply Array.ext'
  rw [List.map_map, List.toList_toArray]
  conv => rhs; rw [← List.map_id b.data.toList]
  apply List.map_congr_left
  intro u _
  simp

theorem ok_convert (hT : TabOK P E.T) {src dst : TypeId} {x : Operand} (ho : o.op = .convert src dst x) : OpOK P E o := by
  intro w0 B Z0 gv s a w Z RV L r t K Q hd h hw
  simp only [astep, ho] at hw
  split at hw
  · rename_i sd td hs ht
    obtain ⟨c, r', hc, hw⟩ := opC_sound hw h
    obtain ⟨y, r', hy, hw⟩ := (rd_sound h 12).1 hc hw
    have hus := (hT _ _ hs).1
    have hut := (hT _ _ ht).1
    unfold convV at hw
    split at hw
    · rename_i k kk n htd
      generalize hV : a.eval x = V at *
      cases hy
      refine fin_value hd h hw (.c _) ?_
      rw [htd] at hut
      cases hsd : sd.desc <;> simp [execOp, ho, hV, convert, run_underlying hus, run_underlying hut, hsd, Conv.intToInt]
    · rename_i kk n htd
      generalize hV : a.eval x = V at *
      cases hy
      refine fin_value hd h hw (.c _) ?_
      rw [htd] at hut
      cases hsd : sd.desc <;> simp [execOp, ho, hV, convert, run_underlying hus, run_underlying hut, hsd, Conv.intToString]
    · rename_i str htd
      generalize hV : a.eval x = V at *
      cases hy
      refine fin_value hd h hw (.c _) ?_
      rw [htd] at hut
      cases hsd : sd.desc <;> simp [execOp, ho, hV, convert, run_underlying hus, run_underlying hut, hsd]
    · rename_i es sz n cs htd
      split at hw
      · rename_i hb
        simp only [Bool.and_eq_true, beq_iff_eq] at hb
        obtain ⟨hb, rfl⟩ := hb
        obtain ⟨str, hstr, hw⟩ := hw
        obtain ⟨e, he, hue⟩ := isByD_spec hT hb
        refine fin_value hd h hw (.c _) ?_
        rw [htd] at hut
        rw [he] at hus
        have hemp : cs = [] → str = ByteArray.empty := fun hne => by
          have : str.data.toList = [] := by rw [hne] at hstr; simpa [IsBytes] using hstr
          have h2 : str.data = #[] := by simpa using this
          cases str
          simp at h2
          subst h2
          rfl
        rcases hy.sl_inv with ⟨A, cap, vs, e1, h4, h6, h8, hm⟩ | ⟨e1, rfl, hne⟩
        rotate_left
        · have hrun := run_convert_bytes_nil (P := P) (w := w) src e hus hue 0 0 dst hut
          simp only [execOp, ho, e1]
          rw [Sem.run_bind, hrun, hemp hne]
          rfl
        by_cases hne : cs = []
        · have hn : n = 0 := by rw [hne] at h4; simp at h4; omega
          subst hn
          have hs0 := hemp hne
          have hrun := run_convert_bytes_string (P := P) w src dst e (some A) 0 cap hus hue hut
          simp only [execOp, ho, e1]
          rw [Sem.run_bind, hrun, hs0]
          simp [Conv.bytesToString, loadCells, loadCellsFrom]
        obtain ⟨hz, hsp, cur, el, fr, hh, h5, rfl⟩ := hm hne
        rw [addr_eta hsp] at e1
        have hvs := plain_shs h8 (by rw [hstr]; intro c hc; simp at hc; obtain ⟨u, _, rfl⟩ := hc; rfl)
        have hlen : (str.data.toList.map fun u => (u.toNat : Int)).length = n := by
          have := congrArg List.length hstr
          simp [h4] at this ⊢
          exact this.symm
        have hrun := run_convert_bytes_arg (P := P) w src e hus hue A.block A.off n cap (str.data.toList.map fun u => (u.toNat : Int)) hlen (fun i hi => by
          rw [cell_at hh]
          have hi' : i < cs.length := by omega
          have h9 : cs[i]? = some (.c (.int .u8 ((str.data.toList.map fun u => (u.toNat : Int)).getD i 0))) := by
            rw [hstr]
            simp at hlen
            simp [List.getD_eq_getElem?_getD, hlen, hi]
          rw [hvs, List.getElem?_map] at h9
          cases h10 : ((cur.toList.drop A.off).take (n * 1))[i]? with
          | none => rw [h10] at h9; simp at h9
          | some v =>
            rw [h10] at h9
            simp at h9
            rw [List.getElem?_take] at h10
            split at h10
            · rw [List.getElem?_drop] at h10
              rw [h10]
              simp [h9]
            · cases h10) dst hut
        simp only [execOp, ho, e1]
        rw [Sem.run_bind, hrun, bytes_of]
        rfl
      · exact hw.elim
    · exact hw.elim
  · exact hw.elim

theorem stup_get {w : World} {Z : Nat → Prop} {R : Nat → List Cell} {RV : Nat → Nat → Value} : ∀ {ts : List (Bool × List Cell)} {us : List Value}, STup w Z R RV ts us → ∀ {i : Nat} {b : Bool} {xs : List Cell}, ts[i]? = some (b, xs) →
    ∃ u, us[i]? = some u ∧ Slot w Z R RV (svMk b xs) u
  | [], [], _, i, b, xs, hx => by simp at hx
  | (true, ys) :: ts, v :: us, h, i, b, xs, hx => by
    cases i with
    | zero =>
      simp at hx
      obtain ⟨rfl, rfl⟩ := hx
      exact ⟨v, rfl, h.1⟩
    | succ i => simpa using stup_get h.2 (by simpa using hx)
  | (false, ys) :: ts, v :: us, h, i, b, xs, hx => by
    cases i with
    | zero =>
      simp at hx
      obtain ⟨rfl, rfl⟩ := hx
      obtain ⟨x, e, hx⟩ := h.1
      rw [e]
      exact ⟨v, rfl, hx⟩
    | succ i => simpa using stup_get h.2 (by simpa using hx)
  | [], _ :: _, h, _, _, _, _ => h.elim
  | (true, _) :: _, [], h, _, _, _, _ => h.elim
  | (false, _) :: _, [], h, _, _, _, _ => h.elim
theorem ok_extract {x : Operand} {i : Nat} (ho : o.op = .extract x i) : OpOK P E o := by
  intro w0 B Z0 gv s a w Z RV L r t K Q hd h hw
  simp only [astep, ho] at hw
  obtain ⟨v, r', hv, hw⟩ := opd_sound hw h
  split at hw
  · rename_i vs
    split at hw
    · rename_i b xs hi
      obtain ⟨us, e1, hus⟩ := hv
      obtain ⟨u, hu, hsl⟩ := stup_get hus hi
      refine fin_value hd h hw hsl ?_
      have hu' : us[i]? = some u := by simpa using hu
      simp [execOp, ho, e1, Instr.extract, hu']
    · exact hw.elim
  · exact hw.elim

theorem ok_index (hT : TabOK P E.T) {ty : TypeId} {x y : Operand} (ho : o.op = .index ty x y) : OpOK P E o := by
  intro w0 B Z0 gv s a w Z RV L r t K Q hd h hw
  simp only [astep, ho] at hw
  obtain ⟨r', hw⟩ := opV_sound hw h
  obtain ⟨kd, n, r', hn, hw⟩ := opI_sound hw h
  generalize hV : a.eval x = V at *
  cases V with
  | string str =>
    by_cases hs : isStD (E.T ty) = true
    · simp only [hs, Bool.not_true, Bool.false_eq_true, if_false, wp_test] at hw
      obtain ⟨⟨h0, h1⟩, hw⟩ := hw
      have hu : P.underlying ty = some .string := by
        unfold isStD at hs
        split at hs
        · rename_i ht; exact (hT _ _ ht).1
        · cases hs
      refine fin_value hd h hw (.c _) ?_
      have hlt : n.toNat < str.size := by omega
      have : str[n.toNat]? = some (str.data.toList.getD n.toNat 0) := by
        have hl' : n.toNat < str.data.size := hlt
        rw [getElem?_pos str n.toNat hlt]
        congr 1
        rw [List.getD_eq_getElem?_getD, Array.getElem?_toList, Array.getElem?_eq_getElem hl']
        rfl
      simp [execOp, ho, hV, hn, Instr.index, asIntOf, run_underlying hu, h0, this]
    · simp only [hs] at hw
      exact hw.elim
  | _ => exact hw.elim
end
end Go.Den

/- Operations on slots that name memory. -/
namespace Go.Den

section
variable {P : Program} {E : Env} {o : Oper}

theorem ok_field (hT : TabOK P E.T) {ty : TypeId} {x : Operand} {f : Nat} (ho : o.op = .field ty x f) : OpOK P E o := by
  intro w0 B Z0 gv s a w Z RV L r t K Q hd h hw
  simp only [astep, ho] at hw
  split at hw
  · rename_i fs sz by_ z ht
    split at hw
    · rename_i fd hf
      split at hw
      · rename_i d hft
        obtain ⟨v, r', hv, hw⟩ := opd_sound hw h
        split at hw
        · rename_i xs
          split at hw
          · rename_i hc
            simp only [Bool.and_eq_true, decide_eq_true_eq] at hc
            obtain ⟨hlen, hag⟩ := hc
            obtain ⟨us, e1, hus⟩ := hv
            obtain ⟨hfu, i, hi, hsz, -, -⟩ := hT _ _ hft
            have hsub := (hus.drop fd.offset).take d.size
            refine fin_value hd h hw (slot_mk hsub) ?_
            have hu := (hT _ _ ht).1
            simp only [execOp, ho, Instr.field, e1]
            simp only [Sem.run_bind, run_underlying hu, Result.andThen_ok, hf, asAgg, Sem.run_pure, part, run_isAgg hfu]
            cases hb : isAggD d.desc with
            | true =>
              simp [sizeOf, typeInfo, hi, hsz]
              apply Array.ext'
              simp [Array.toList_extract, List.extract]
            | false =>
              simp only [hb, Bool.false_or, beq_iff_eq] at hag
              have hl2 : ((us.toList.drop fd.offset).take d.size).length = d.size := by rw [← hsub.length]; exact hlen
              have h0 : fd.offset < us.size := by simp at hl2; omega
              simp [h0, hag, List.getD_eq_getElem?_getD]
          · exact hw.elim
        · exact hw.elim
      · exact hw.elim
    · exact hw.elim
  · exact hw.elim

/-- A name that is a pointer. -/
theorem ptr_value {w0 : World} {B Z0 : Nat → Prop} {gv : List Value} {s : List Ent} {a : Act} {w : World} {Z : Nat → Prop} {RV : Nat → Nat → Value} {L : Nat → Nat → List Nat}
    {C : FuncId → List Arg → Res → Prop} {r t : List Nat} {α : Type} {K : α → List Ent → List Nat → List Nat → Prop} (h : At E w0 B Z0 gv s a w Z RV L) {rr i : Nat} {V : Value} {k : AM α}
    (hc : SCell w Z (rOf s) RV (.hd rr i none) V) (hw : wp C (atP rr i none fun _ y => match y with | .ptr _ | .shd (.ptr _) => k | _ => .fail) s r t K) :
    ∃ A r', V = .pointer (some A) ∧ addrOf (RV rr i) = some A ∧ A.spot = none ∧ i < (rOf s rr).length ∧ wp C k s r' t K := by
  obtain ⟨y, r', hlt, hx, hok, hw2⟩ := atP_sound hw
  clear hw
  have hi := (List.getElem?_eq_some_iff.1 hx).1
  rcases name_value h hc hx hok with ⟨-, rfl, hrc⟩ | ⟨hn, -⟩
  · have hone := h.inv.one rr i hi
    cases y with
    | ptr ys =>
      obtain ⟨b, cur, e, e1, -⟩ := hrc
      exact ⟨_, r', e1, by rw [e1]; rfl, rfl, hi, hw2⟩
    | shd z =>
      cases z with
      | ptr ys =>
        obtain ⟨A, cur, e, fr, e1, hz, hs, -⟩ := (Ow.shd_inv hrc).2.ptr_inv
        exact ⟨_, r', e1, by rw [e1]; rfl, hs, hi, hw2⟩
      | _ => exact hw2.elim
    | _ => exact hw2.elim
  · exact absurd rfl hn

theorem ok_fieldAddr (hT : TabOK P E.T) {ty : TypeId} {x : Operand} {f : Nat} (ho : o.op = .fieldAddr ty x f) : OpOK P E o := by
  intro w0 B Z0 gv s a w Z RV L r t K Q hd h hw
  simp only [astep, ho] at hw
  split at hw
  · rename_i fs sz by_ z ht
    split at hw
    · rename_i fd hf
      split at hw
      · rename_i d hft
        obtain ⟨hfu, i, hi, hsz, -, -⟩ := hT _ _ hft
        have hu := (hT _ _ ht).1
        by_cases h0 : d.size = 0
        · simp only [h0, if_true] at hw; exact hw.elim
        · simp only [h0, if_false] at hw
          obtain ⟨c, r', hc, hw⟩ := opC_sound hw h
          have run : ∀ A, a.eval x = .pointer (some A) → (execOp a.eval o).run P w = .ok (.value (.pointer (some (A.add fd.offset)))) w := fun A hA => by
            simp [execOp, ho, hA, Instr.fieldAt, run_underlying hu, hf, Instr.sureAddr, fieldPlace, sizeOf, typeInfo, hi, hsz, h0]
          generalize hV : a.eval x = V at *
          cases c with
          | ptr cs =>
            simp only [fieldAddrAM, wp_test] at hw
            obtain ⟨hle, hw⟩ := hw
            obtain ⟨A, cur, e, fr, e1, hz, hs, hh, hroom, hsh⟩ := (scell_ptr hc).ptr_inv
            refine fin_value hd h hw (.sh ?_) (run A e1)
            have h1 := hsh.drop fd.offset
            rw [add_at A _ hs]
            refine .ptr hz rfl hh (by simp; omega) ?_ h1
            rw [List.drop_take, List.drop_drop, List.length_drop]
          | ad rr i k j =>
            cases hc with
            | sh hx => cases hx
            | ad hlt ha =>
              refine fin_value hd h hw (v := .one (.ad rr i none (j + fd.offset))) (.ad hlt ha) ?_
              rw [run _ rfl, add_add ((h.inv.one _ _ hlt).2 _ ha)]
            | ade hlt hv => exact hw.elim
          | hd rr i k =>
            cases k with
            | none =>
              obtain ⟨A, r', hA, hRV, hs, hlt, hw⟩ := ptr_value h hc hw
              subst hA
              exact fin_value hd h hw (v := .one (.ad rr i none fd.offset)) (.ad hlt hRV) (run _ rfl)
            | some k => exact hw.elim
          | _ => exact hw.elim
      · exact hw.elim
    · exact hw.elim
  · exact hw.elim

/-- A slice that is indexed. -/
theorem indexAddr_sound {w0 : World} {B Z0 : Nat → Prop} {gv : List Value} {s : List Ent} {a : Act} {w : World} {Z : Nat → Prop} {RV : Nat → Nat → Value} {L : Nat → Nat → List Nat}
    {C : FuncId → List Arg → Res → Prop} {r t : List Nat} {α : Type} {K : α → List Ent → List Nat → List Nat → Prop} (h : At E w0 B Z0 gv s a w Z RV L) {c : Cell} {V : Value} {size : Nat} {n : Int} {k : Cell → AM α}
    (hs0 : size ≠ 0) (hc : SCell w Z (rOf s) RV c V) (hw : wp C (indexAddrAM size c n k) s r t K) :
    ∃ A m cap y r', V = .slice (some A) m cap ∧ 0 ≤ n ∧ n < m ∧ SCell w Z (rOf s) RV y (.pointer (some (A.add (n.toNat * size)))) ∧ wp C (k y) s r' t K := by
  cases c with
  | sl es sz m cs =>
    simp only [indexAddrAM, wp_test] at hw
    obtain ⟨⟨h0, h1⟩, hw⟩ := hw
    split at hw
    · rename_i hsz
      subst hsz
      rcases (scell_sl hc).sl_inv with ⟨A, cap, vs, e1, h4, h6, h8, hm⟩ | ⟨-, rfl, -⟩
      rotate_left
      · omega
      have hne : cs ≠ [] := fun e => by
        subst e
        have : 0 < m * sz := Nat.mul_pos (by omega) (by omega)
        simp at h4
        omega
      obtain ⟨hz, hs, cur, e, fr, hh, h5, rfl⟩ := hm hne
      refine ⟨A, m, cap, _, r, e1, h0, h1, .sh ?_, hw⟩
      have h9 := h8.drop (n.toNat * sz)
      rw [add_at A _ hs]
      have hle : n.toNat * sz ≤ m * sz := Nat.mul_le_mul_right _ (by omega)
      refine .ptr hz rfl hh (by simp; omega) ?_ h9
      rw [List.drop_take, List.drop_drop, List.length_drop, h4]
    · exact hw.elim
  | hd rr i kk =>
    simp only [indexAddrAM] at hw
    obtain ⟨x, r', hlt, hx, hok, hw2⟩ := atP_sound hw
    clear hw
    rcases name_value h hc hx hok with ⟨rfl, rfl, hrc⟩ | ⟨hn, hh, hp, l, ho, hl⟩
    · have hi := (List.getElem?_eq_some_iff.1 hx).1
      have go : ∀ {sz m : Nat} {A : Addr} {cap : Nat}, RV rr i = .slice (some A) m cap → wp C (.test (0 ≤ n ∧ n < m) (if sz = size then k (.ad rr i none (n.toNat * size)) else .fail)) s r' t K →
          ∃ A m cap y r', RV rr i = .slice (some A) m cap ∧ 0 ≤ n ∧ n < m ∧ SCell w Z (rOf s) RV y (.pointer (some (A.add (n.toNat * size)))) ∧ wp C (k y) s r' t K := by
        intro sz m A cap e1 hw
        rw [wp_test] at hw
        obtain ⟨⟨h0, h1⟩, hw⟩ := hw
        split at hw
        · exact ⟨A, m, cap, _, r', e1, h0, h1, .ad hi (by rw [e1]; rfl), hw⟩
        · exact hw.elim
      cases x with
      | sl es sz m cs =>
        have hw3 := hw2
        rw [wp_test] at hw3
        obtain ⟨b, cap, cur, e, e1, -⟩ := Ow.any_ne hrc (by omega)
        exact go e1 hw2
      | shd z =>
        cases z with
        | sl es sz m cs =>
          rcases (Ow.shd_inv hrc).2.sl_inv with ⟨A, cap, _, e1, -⟩ | ⟨-, rfl, -⟩
          · exact go e1 hw2
          · rw [wp_test] at hw2
            obtain ⟨⟨h0, h1⟩, -⟩ := hw2
            omega
        | _ => exact hw2.elim
      | _ => exact hw2.elim
    · cases x with
      | sl es sz m cs =>
        rw [wp_test] at hw2
        obtain ⟨⟨h0, h1⟩, hw⟩ := hw2
        obtain ⟨b, cap, cur, e, e1, -⟩ := ho.any_ne (by omega)
        split at hw
        · refine ⟨_, m, cap, _, r', e1, h0, h1, ?_, hw⟩
          cases kk with
          | none => exact absurd rfl hn
          | some kk =>
            cases hc with
            | sh hx => cases hx
            | hde hi hv => exact .ade hi fun y hy hyh => ⟨V, _, hv y hy hyh, by rw [e1]; rfl, rfl⟩
        · exact hw.elim
      | shd z => simp [isHdr] at hh
      | _ => exact hw2.elim
  | _ => exact hw.elim

theorem ok_indexAddr (hT : TabOK P E.T) {ty : TypeId} {x y : Operand} (ho : o.op = .indexAddr ty x y) : OpOK P E o := by
  intro w0 B Z0 gv s a w Z RV L r t K Q hd h hw
  simp only [astep, ho] at hw
  split at hw
  · rename_i e sz by_ z ht
    split at hw
    · rename_i el hel
      obtain ⟨hfu, i, hi, hsz, -, -⟩ := hT _ _ hel
      have hu := (hT _ _ ht).1
      split at hw
      · exact hw.elim
      rename_i hs0
      obtain ⟨c, r', hc, hw⟩ := opC_sound hw h
      obtain ⟨kd, n, r', hn, hw⟩ := opI_sound hw h
      obtain ⟨A, m, cap, yy, r', hV, h0, h1, hy, hw⟩ := indexAddr_sound h hs0 hc hw
      refine fin_value hd h hw hy ?_
      simp [execOp, ho, Instr.indexAt, hV, hn, asIntOf, run_underlying hu, h0, h1, sizeOf, typeInfo, hi, hsz]
    · exact hw.elim
  · rename_i len e sz by_ z ht
    split at hw
    · rename_i el hel
      obtain ⟨hfu, i, hi, hsz, -, -⟩ := hT _ _ hel
      have hu := (hT _ _ ht).1
      obtain ⟨c, r', hc, hw⟩ := opC_sound hw h
      obtain ⟨kd, n, r', hn, hw⟩ := opI_sound hw h
      have run : ∀ A, a.eval x = .pointer (some A) → 0 ≤ n → n < len → (execOp a.eval o).run P w = .ok (.value (.pointer (some (A.add (n.toNat * el.size))))) w := fun A hA h0 h1 => by
        simp [execOp, ho, hA, Instr.indexAt, Instr.sureAddr, hn, asIntOf, run_underlying hu, h0, h1, sizeOf, typeInfo, hi, hsz]
      split at hw
      · rename_i cs
        rw [wp_test] at hw
        obtain ⟨⟨h0, h1, h2⟩, hw⟩ := hw
        obtain ⟨A, cur, e, fr, e1, hz, hs, hh, hroom, hsh⟩ := (scell_ptr hc).ptr_inv
        refine fin_value hd h hw (.sh ?_) (run A e1 h0 h1)
        have h9 := hsh.drop (n.toNat * el.size)
        rw [add_at A _ hs]
        refine .ptr hz rfl hh (by simp; omega) ?_ h9
        rw [List.drop_take, List.drop_drop, List.length_drop]
      · exact hw.elim
    · exact hw.elim
  · exact hw.elim
end
end Go.Den

/- Lengths, functions, slices of slices. -/
namespace Go.Den

section
variable {P : Program} {E : Env} {o : Oper}

theorem ok_nilCheck {x : Operand} (ho : o.op = .nilCheck x) : OpOK P E o := by
  intro w0 B Z0 gv s a w Z RV L r t K Q hd h hw
  simp only [astep, ho] at hw
  obtain ⟨c, r', hc, hw⟩ := opC_sound hw h
  have run : ∀ A, a.eval x = .pointer (some A) → (execOp a.eval o).run P w = .ok (.value (a.eval x)) w := fun A hA => by simp [execOp, ho, hA]
  generalize hV : a.eval x = V at *
  split at hw
  · obtain ⟨A, cur, e, fr, e1, -⟩ := (scell_ptr hc).ptr_inv
    exact fin_value hd h hw hc (run A e1)
  · rename_i rr i j
    cases hc with
    | sh hx => cases hx
    | ad hlt ha => exact fin_value hd h hw (v := .one (.ad rr i none j)) (.ad hlt ha) (run _ rfl)
  · obtain ⟨A, r', hA, hRV, hs, hlt, hw⟩ := ptr_value h hc hw
    exact fin_value hd h hw hc (run A hA)
  · exact hw.elim

theorem call_builtin {c : Call} {b : Builtin} (ho : o.op = .call c) (hc : c.callee = .builtin b) (ρ : Operand → Value) :
    ∃ q, execOp ρ o = builtin b c.argTypes o.type q (c.args.map ρ) := by
  obtain ⟨dst, op, type, pos, after, guard⟩ := o
  obtain ⟨callee, args, ats⟩ := c
  simp only at ho hc
  subst ho hc
  exact ⟨_, rfl⟩

theorem arr1 {α : Type} {A : Array α} {x : α} (h : A.toList = [x]) : A = #[x] := by
  apply Array.ext'; simp [h]
theorem arr2 {α : Type} {A : Array α} {x y : α} (h : A.toList = [x, y]) : A = #[x, y] := by
  apply Array.ext'; simp [h]

theorem ok_min {c : Call} (ho : o.op = .call c) (hc : c.callee = .builtin .min) : OpOK P E o := by
  intro w0 B Z0 gv s a w Z RV L r t K Q hd h hw
  simp only [astep, ho, hc] at hw
  split at hw
  · rename_i x y hargs
    obtain ⟨k, m, r', hm, hw⟩ := opI_sound hw h
    obtain ⟨k', n, r', hn, hw⟩ := opI_sound hw h
    split at hw
    · rename_i hk
      subst hk
      refine fin_value hd h hw (.c _) ?_
      obtain ⟨q, hq⟩ := call_builtin ho hc a.eval
      rw [hq, arr2 hargs]
      simp [builtin, Builtin.min_, hm, hn, Builtin.min2]
    · exact hw.elim
  · exact hw.elim
theorem ok_max {c : Call} (ho : o.op = .call c) (hc : c.callee = .builtin .max) : OpOK P E o := by
  intro w0 B Z0 gv s a w Z RV L r t K Q hd h hw
  simp only [astep, ho, hc] at hw
  split at hw
  · rename_i x y hargs
    obtain ⟨k, m, r', hm, hw⟩ := opI_sound hw h
    obtain ⟨k', n, r', hn, hw⟩ := opI_sound hw h
    split at hw
    · rename_i hk
      subst hk
      refine fin_value hd h hw (.c _) ?_
      obtain ⟨q, hq⟩ := call_builtin ho hc a.eval
      rw [hq, arr2 hargs]
      simp [builtin, Builtin.max_, hm, hn, Builtin.max2]
    · exact hw.elim
  · exact hw.elim

theorem ok_len (hT : TabOK P E.T) {c : Call} (ho : o.op = .call c) (hc : c.callee = .builtin .len) : OpOK P E o := by
  intro w0 B Z0 gv s a w Z RV L r t K Q hd h hw
  simp only [astep, ho, hc] at hw
  split at hw
  · rename_i x ty hargs htys
    split at hw
    · rename_i d ht
      have hu := (hT _ _ ht).1
      obtain ⟨cc, r', hcc, hw⟩ := opC_sound hw h
      have hA := arr1 hargs
      have hB := arr1 htys
      have run : ∀ n : Int, (∀ w, (Builtin.len_ #[ty] o.type #[a.eval x]).run P w = .ok (goInt n) w) → (execOp a.eval o).run P w = .ok (.value (.int .i64 n)) w := fun n hn => by
        obtain ⟨q, hq⟩ := call_builtin ho hc a.eval
        rw [hq, hA, hB]
        simp [builtin, hn, goInt]
      generalize hV : a.eval x = V at *
      unfold lenAM at hw
      split at hw
      · rename_i d' cc' e n k hd'
        rw [hd'] at hu
        have := scell_c hcc
        subst this
        exact fin_value hd h hw (.c _) (run _ fun w => by simp [Builtin.len_, run_underlying hu, goInt])
      · rename_i d' cc' e1 e2 hd'
        rw [hd'] at hu
        have := scell_c hcc
        subst this
        exact fin_value hd h hw (.c _) (run _ fun w => by simp [Builtin.len_, run_underlying hu, goInt])
      · rename_i d' cc' str hd'
        rw [hd'] at hu
        have := scell_c hcc
        subst this
        exact fin_value hd h hw (.c _) (run _ fun w => by simp [Builtin.len_, run_underlying hu, goInt])
      · rename_i d' cc' e es sz n cs hd'
        rw [hd'] at hu
        obtain ⟨A, cap, e1, -⟩ := (scell_sl hcc).sl_val
        subst e1
        exact fin_value hd h hw (.c _) (run _ fun w => by simp [Builtin.len_, run_underlying hu, goInt])
      · rename_i d' cc' e1 e2 es ks cs hd'
        rw [hd'] at hu
        obtain ⟨b, ents, clock, e1, hz, hh, hk, hs⟩ := (scell_mp hcc).mp_inv
        subst e1
        refine fin_value hd h hw (.c _) ?_
        obtain ⟨q, hq⟩ := call_builtin ho hc a.eval
        rw [hq, hA, hB]
        have : (ents.size : Int) = ks.length := by rw [← hk]; simp
        simp [builtin, Builtin.len_, hV, run_underlying hu, getObj, Sem.run, hh, goInt, this]
      · rename_i d' cc' e rr i k hd'
        rw [hd'] at hu
        obtain ⟨y, r', hlt, hx, hok, hw2⟩ := atP_sound hw
        clear hw
        have hV' : ∃ n A cap, V = .slice A n cap ∧ wp (Ret P E.G) (setD o.dst (.one (.c (.int .i64 n)))) s r' t K := by
          rcases name_value h hcc hx hok with ⟨rfl, rfl, hrc⟩ | ⟨hn, hh, hp, l, ho, hl⟩
          · cases y with
            | sl es sz n cs => obtain ⟨A, cap, e1, -⟩ := Ow.any_val hrc; exact ⟨_, _, _, e1, hw2⟩
            | shd z =>
              cases z with
              | sl es sz n cs => obtain ⟨A, cap, e1, -⟩ := (Ow.shd_inv hrc).2.sl_val; exact ⟨_, _, _, e1, hw2⟩
              | _ => exact hw2.elim
            | _ => exact hw2.elim
          · cases y with
            | sl es sz n cs => obtain ⟨A, cap, e1, -⟩ := ho.any_val; exact ⟨_, _, _, e1, hw2⟩
            | shd z => simp [isHdr] at hh
            | _ => exact hw2.elim
        obtain ⟨n, A, cap, rfl, hw⟩ := hV'
        exact fin_value hd h hw (.c _) (run _ fun w => by simp [Builtin.len_, run_underlying hu, goInt])
      · rename_i d' cc' e1 e2 rr i hd'
        rw [hd'] at hu
        obtain ⟨y, r', hlt, hx, hok, hw2⟩ := atP_sound hw
        clear hw
        have hV' : ∃ n b ents clock, V = .map (some b) ∧ w.heap[b]? = some (.map ents clock) ∧ ents.size = n ∧ wp (Ret P E.G) (setD o.dst (.one (.c (.int .i64 n)))) s r' t K := by
          rcases name_value h hcc hx hok with ⟨-, rfl, hrc⟩ | ⟨hn, -⟩
          · cases y with
            | mp es ks cs =>
              cases es with
              | false => obtain ⟨b, ents, clock, l', e1, e2, hh, hk, -⟩ := Ow.mp_inv hrc; exact ⟨_, b, ents, clock, e1, hh, by rw [← hk]; simp, hw2⟩
              | true => obtain ⟨b, ents, clock, e1, e2, hh, hk, -⟩ := Ow.mps_inv hrc; exact ⟨_, b, ents, clock, e1, hh, by rw [← hk]; simp, hw2⟩
            | shd z =>
              cases z with
              | mp es ks cs => obtain ⟨b, ents, clock, e1, hz, hh, hk, -⟩ := (Ow.shd_inv hrc).2.mp_inv; exact ⟨_, b, ents, clock, e1, hh, by rw [← hk]; simp, hw2⟩
              | _ => exact hw2.elim
            | _ => exact hw2.elim
          · exact absurd rfl hn
        obtain ⟨n, b, ents, clock, rfl, hh, hsz, hw⟩ := hV'
        refine fin_value hd h hw (.c _) ?_
        obtain ⟨q, hq⟩ := call_builtin ho hc a.eval
        rw [hq, hA, hB]
        simp [builtin, Builtin.len_, hV, run_underlying hu, getObj, Sem.run, hh, goInt, hsz]
      · exact hw.elim
    · exact hw.elim
  · exact hw.elim
theorem ok_cap (hT : TabOK P E.T) {c : Call} (ho : o.op = .call c) (hc : c.callee = .builtin .cap) : OpOK P E o := by
  intro w0 B Z0 gv s a w Z RV L r t K Q hd h hw
  simp only [astep, ho, hc] at hw
  split at hw
  · rename_i x ty hargs htys
    split at hw
    · rename_i hs
      obtain ⟨e, hu⟩ := isSlD_spec hT hs
      obtain ⟨cc, r', hcc, hw⟩ := opC_sound hw h
      have hA := arr1 hargs
      have hB := arr1 htys
      split at hw
      · refine fin_value hd h hw (.c _) ?_
        obtain ⟨q, hq⟩ := call_builtin ho hc a.eval
        rw [hq, hA, hB]
        simp [builtin, Builtin.cap_, scell_c hcc, run_underlying hu, goInt]
      · exact hw.elim
    · exact hw.elim
  · exact hw.elim

theorem opCs_sound {w0 : World} {B Z0 : Nat → Prop} {gv : List Value} {s : List Ent} {a : Act} {w : World} {Z : Nat → Prop} {RV : Nat → Nat → Value} {L : Nat → Nat → List Nat}
    {C : FuncId → List Arg → Res → Prop} {t : List Nat} {α : Type} {K : α → List Ent → List Nat → List Nat → Prop} (h : At E w0 B Z0 gv s a w Z RV L) : ∀ {xs : List Operand} {k : List Cell → AM α} {r : List Nat},
    wp C (opCs E xs k) s r t K → ∃ cs r', SCells w Z (rOf s) RV cs (xs.map a.eval) ∧ wp C (k cs) s r' t K
  | [], k, r, hw => ⟨[], r, .nil, hw⟩
  | x :: xs, k, r, hw => by
    obtain ⟨c, r', hc, hw⟩ := opC_sound hw h
    obtain ⟨cs, r', hcs, hw⟩ := opCs_sound h hw
    exact ⟨c :: cs, r', .cons hc hcs, hw⟩
theorem ok_makeFunc {f : Fn} {first caps : Array Operand} (ho : o.op = .makeFunc f first caps) : OpOK P E o := by
  intro w0 B Z0 gv s a w Z RV L r t K Q hd h hw
  simp only [astep, ho] at hw
  split at hw
  · rename_i hf
    obtain ⟨cs, r', hcs, hw⟩ := opCs_sound h hw
    refine fin_value hd h hw (.fn hcs) ?_
    have : first = #[] := Array.size_eq_zero_iff.1 hf
    subst this
    simp [execOp, ho, Instr.makeFunc]
    apply Array.ext'
    simp
  · exact hw.elim
end
end Go.Den

/- Parts of slices; what is frozen. -/
namespace Go.Den

section
variable {E : Env} {w0 : World} {B Z0 : Nat → Prop} {gv : List Value} {s : List Ent} {a : Act} {w : World} {Z : Nat → Prop} {RV : Nat → Nat → Value}
  {L : Nat → Nat → List Nat}

/-- A named tree is shared from now on. -/
theorem At.freeze (h : At E w0 B Z0 gv s a w Z RV L) {r i : Nat} (hr : r < s.length) (hi : i < (rOf s r).length) {z : Cell}
    (hz : Sh w (fun b => Z b ∨ b ∈ L r i) z (RV r i)) :
    At E w0 B Z0 gv (s.set r ⟨sOf s r, (rOf s r).set i (.shd z)⟩) a w (fun b => Z b ∨ b ∈ L r i) RV (upd2 L r i []) := by
  have hrf0 := exch_refs (w := w) (RV := RV) hr hi (y := .shd z) (fun k x hk _ => by simp [getC] at hk)
  have hR : rOf (s.set r ⟨sOf s r, (rOf s r).set i (.shd z)⟩) = fun j => if j = r then (rOf s r).set i (.shd z) else rOf s j := by funext j; rw [rOf_set hr]
  rw [hR] at hrf0
  refine h.names hr (D := fun _ => False) rfl (Ext.refl _ w) (by simp) (fun _ h => .inl h) (fun b hb => hb.imp id fun h' => ⟨(h.inv.own r i b h').2.1, (h.inv.own r i b h').2.2⟩) hrf0 ?_ ?_ ?_ ?_ ?_ ?_
  · intro r' i' x hx
    by_cases e : (r', i') = (r, i)
    · obtain ⟨rfl, rfl⟩ := Prod.mk.inj e
      simp [hi] at hx
      subst hx
      rw [upd2_same]
      exact .inr (Ow.shd hz)
    · refine .inl ⟨?_, by rw [upd2_ne _ _ e], by simp⟩
      by_cases e1 : r' = r
      · subst e1
        simp only [if_true] at hx
        rwa [List.getElem?_set_ne (fun e2 => e (by rw [e2]))] at hx
      · simpa [e1] using hx
  · intro r' i'
    by_cases e : (r', i') = (r, i)
    · obtain ⟨rfl, rfl⟩ := Prod.mk.inj e; rw [upd2_same]; exact .nil
    · rw [upd2_ne _ _ e]; exact h.inv.nodup _ _
  · intro r1 i1 r2 i2 hne b h1 h2
    by_cases e : (r1, i1) = (r, i)
    · obtain ⟨rfl, rfl⟩ := Prod.mk.inj e; rw [upd2_same] at h1; simp at h1
    · rw [upd2_ne _ _ e] at h1
      by_cases e' : (r2, i2) = (r, i)
      · obtain ⟨rfl, rfl⟩ := Prod.mk.inj e'; rw [upd2_same] at h2; simp at h2
      · rw [upd2_ne _ _ e'] at h2
        exact h.inv.sep r1 i1 r2 i2 hne b h1 h2
  · intro r' i' b hb
    by_cases e : (r', i') = (r, i)
    · obtain ⟨rfl, rfl⟩ := Prod.mk.inj e; rw [upd2_same] at hb; simp at hb
    · rw [upd2_ne _ _ e] at hb
      have := h.inv.own r' i' b hb
      exact ⟨fun hz' => hz'.elim this.1 fun h' => h.inv.sep r' i' r i e b hb h', this.2⟩
  · intro r' i' hx
    by_cases e : (r', i') = (r, i)
    · obtain ⟨rfl, rfl⟩ := Prod.mk.inj e
      simp [hi] at hx
    · rw [upd2_ne _ _ e]
      refine h.inv.out r' i' ?_
      by_cases e1 : r' = r
      · subst e1
        simp only [if_true] at hx
        rwa [List.getElem?_set_ne (fun e2 => e (by rw [e2]))] at hx
      · simpa [e1] using hx
  · intro r' i' hi'
    refine h.inv.one r' i' ?_
    by_cases e : r' = r
    · subst e; simpa using hi'
    · simpa [e] using hi'

/-- A bound that is given. -/
def IsB : Option Value → Option Int → Prop
  | none, none => True
  | some v, some n => ∃ k, v = .int k n
  | _, _ => False
theorem cut_sh {es : Bool} {sz n cap : Nat} {cs : List Cell} {A : Addr} (hsh : Sh w Z (.sl es sz n cs) (.slice (some A) n cap)) {l h : Nat} (hlh : l ≤ h) (hh : h ≤ n) :
    Sh w Z (.sl es sz (h - l) ((cs.drop (l * sz)).take ((h - l) * sz))) (.slice (some (if cap = l then A else A.add (l * sz))) (h - l) (cap - l)) := by
  rcases hsh.sl_inv with ⟨A', cap', vs, e1, h4, h6, h8, hm⟩ | ⟨e1, -, -⟩
  rotate_left
  · cases e1
  cases e1
  have h9 := (h8.drop (l * sz)).take ((h - l) * sz)
  have hle : l * sz ≤ n * sz := Nat.mul_le_mul_right _ (by omega)
  have hle2 : l * sz + (h - l) * sz ≤ n * sz := by rw [← Nat.add_mul]; exact Nat.mul_le_mul_right _ (by omega)
  have hlen : ((cs.drop (l * sz)).take ((h - l) * sz)).length = (h - l) * sz := by simp [h4]; omega
  by_cases hcl : cap = l
  · have h0 : h - l = 0 := by omega
    rw [if_pos hcl, h0] at *
    simp only [Nat.zero_mul, List.take_zero] at *
    exact .sl (by simp) (by omega) .nil fun h => absurd rfl h
  · rw [if_neg hcl]
    refine .sl hlen (by omega) h9 fun hne => ?_
    obtain ⟨hz, hs, cur, e, fr, hheap, h5, rfl⟩ := hm fun e => hne (by rw [e]; simp)
    rw [add_at A _ hs]
    refine ⟨hz, rfl, cur, e, fr, hheap, by simp; omega, ?_⟩
    rw [List.drop_take, List.drop_drop, List.take_take, Nat.min_eq_left (by omega)]
end

section
variable {P : Program} {E : Env} {o : Oper}
theorem run_bound {v : Value} {n : Int} {k : IntKind} (hv : v = .int k n) {y : Nat} {code : BoundsCode} (h0 : 0 ≤ n) (h1 : n ≤ y) (w : World) : (Instr.sliceBound v y code).run P w = .ok n.toNat w := by
  subst hv
  simp [Instr.sliceBound, asIntOf, h0, h1]
/-- Bounds in their order. -/
structure Bnd (lo hi : Option Int) (n : Nat) (x y : Nat) : Prop where
  e1 : lo.getD 0 = x
  e2 : hi.getD n = y
  lh : x ≤ y
  hn : y ≤ n
theorem run_bounds {isSlice : Bool} {n cap : Nat} {low high : Option Value} {lo hi : Option Int} (hl : IsB low lo) (hh : IsB high hi) {l h : Nat} (hb : Bnd lo hi n l h) (hc : n ≤ cap) (w : World) :
    (Instr.sliceBounds isSlice n cap low high none).run P w = .ok (l, h, cap) w := by
  have e1 := hb.e1
  have e2 := hb.e2
  have e3 := hb.lh
  have e4 := hb.hn
  unfold Instr.sliceBounds
  cases low with
  | none =>
    cases lo with
    | some _ => exact hl.elim
    | none =>
      have : l = 0 := by simpa using e1.symm
      subst this
      cases high with
      | none =>
        cases hi with
        | some _ => exact hh.elim
        | none => simp at e2 ⊢; omega
      | some v =>
        cases hi with
        | none => exact hh.elim
        | some m =>
          obtain ⟨k, hv⟩ := hh
          simp at e2
          simp [run_bound hv (show 0 ≤ m by omega) (show m ≤ cap by omega)]
          omega
  | some u =>
    cases lo with
    | none => exact hl.elim
    | some m' =>
      obtain ⟨k', hu⟩ := hl
      simp at e1
      cases high with
      | none =>
        cases hi with
        | some _ => exact hh.elim
        | none =>
          simp at e2
          have : n = h := by omega
          subst this
          simp [run_bound hu (show 0 ≤ m' by omega) (show m' ≤ n by omega)]
          omega
      | some v =>
        cases hi with
        | none => exact hh.elim
        | some m =>
          obtain ⟨k, hv⟩ := hh
          simp at e2
          simp [run_bound hv (show 0 ≤ m by omega) (show m ≤ cap by omega), run_bound hu (show 0 ≤ m' by omega) (show m' ≤ m.toNat by omega)]
          omega

end
end Go.Den

/- What is made: rows, maps, structs. -/
namespace Go.Den

def spl (cs : List Value) (off : Nat) (vs : List Value) : List Value := cs.take off ++ vs ++ cs.drop (off + vs.length)
theorem fold_set (off : Nat) : ∀ (vs : List Value) (k : Nat) (cells : Array Value), off + k + vs.length ≤ cells.size →
    ((vs.zipIdx k).foldl (fun cs (p : Value × Nat) => cs.setIfInBounds (off + p.2) p.1) cells).toList = spl cells.toList (off + k) vs
  | [], k, cells, _ => by simp [spl]
  | v :: vs, k, cells, h => by
    simp only [List.length_cons] at h
    rw [List.zipIdx_cons, List.foldl_cons, fold_set off vs (k + 1) _ (by simp; omega)]
    have hlt : off + k < cells.toList.length := by simp; omega
    simp only [spl, Array.toList_setIfInBounds, List.length_cons]
    rw [show off + (k + 1) = off + k + 1 by omega]
    rw [List.take_set, List.take_add_one, List.drop_set_of_lt (by omega)]
    rw [show off + k + 1 + vs.length = off + k + (vs.length + 1) by omega]
    rw [List.set_append_right _ _ (by simp; omega)]
    simp only [List.length_take, Nat.min_eq_left (Nat.le_of_lt hlt), Nat.sub_self, List.getElem?_eq_getElem hlt, Option.toList_some, List.set_cons_zero, List.append_assoc, List.cons_append, List.nil_append]
theorem fill_step {place : Nat → Option (Nat × Nat)} {cells : Array Value} {i off size : Nat} {V : Value} {rest : List (Nat × Value)} (hp : place i = some (off, size))
    (hs : V.cells.size = size) (ho : off + size ≤ cells.size) : ∃ cells' : Array Value, Instr.fill place cells ((i, V) :: rest) = Instr.fill place cells' rest ∧ cells'.toList = spl cells.toList off V.cells.toList ∧ cells'.size = cells.size := by
  have h1 := fold_set off V.cells.toList 0 cells (by simp; omega)
  refine ⟨V.cells.zipIdx.foldl (fun cs (p : Value × Nat) => cs.setIfInBounds (off + p.2) p.1) cells, ?_, ?_, ?_⟩
  · rw [Instr.fill, hp]
    simp only
    rw [if_neg (by simp [hs]; omega)]
  · rw [← Array.foldl_toList, Array.toList_zipIdx]; exact h1
  · rw [← Array.length_toList, ← Array.foldl_toList, Array.toList_zipIdx, h1]
    simp [spl]; omega

section
variable {w : World} {Z : Nat → Prop} {R : Nat → List Cell} {RV : Nat → Nat → Value}
theorem SCells.splice {ds ys : List Cell} {vs us : List Value} (h : SCells w Z R RV ds vs) (k : SCells w Z R RV ys us) (off : Nat) : SCells w Z R RV (splice ds off ys) (spl vs off us) := by
  unfold Den.splice spl
  rw [k.length]
  exact ((h.take off).append k).append (h.drop _)
end

section
variable {E : Env} {w0 : World} {B Z0 : Nat → Prop} {gv : List Value} {s : List Ent} {a : Act} {w : World} {Z : Nat → Prop} {RV : Nat → Nat → Value}
  {L : Nat → Nat → List Nat} {C : FuncId → List Arg → Res → Prop} {α : Type} {t : List Nat} {K : α → List Ent → List Nat → List Nat → Prop}
theorem buildAM_sound (h : At E w0 B Z0 gv s a w Z RV L) {d : TypeDesc} {place : Nat → Option (Nat × Nat)} (hp : ∀ i off size, partOff E.T d i = some (off, size) → place i = some (off, size)) :
    ∀ (ps : List (Nat × Operand)) {cs : List Cell} {cells : Array Value} {k : List Cell → AM α} {r : List Nat}, SCells w Z (rOf s) RV cs cells.toList → wp C (buildAM E d ps cs k) s r t K →
      ∃ cs' cells' r', Instr.fill place cells (ps.map fun p => (p.1, a.eval p.2)) = some cells' ∧ SCells w Z (rOf s) RV cs' cells'.toList ∧ wp C (k cs') s r' t K
  | [], cs, cells, k, r, hc, hw => ⟨cs, cells, r, rfl, hc, hw⟩
  | (i, x) :: ps, cs, cells, k, r, hc, hw => by
    unfold buildAM at hw
    split at hw
    · rename_i off size hpo
      obtain ⟨v, r', hv, hw⟩ := opd_sound hw h
      split at hw
      · rename_i hcond
        simp only [Bool.and_eq_true, decide_eq_true_eq] at hcond
        obtain ⟨⟨⟨hl, ho⟩, hok⟩, hwr⟩ := hcond
        have hcs := slot_cells h hv hwr hok
        have hl1 : (svCells v).length = (a.eval x).cells.size := by simpa using hcs.length
        have hl2 : cs.length = cells.size := by simpa using hc.length
        have hl3 : (a.eval x).cells.size = size := by omega
        have hl4 : off + size ≤ cells.size := by omega
        obtain ⟨cells', h1, h2, h3⟩ := fill_step (rest := ps.map fun p => (p.1, a.eval p.2)) (V := a.eval x) (cells := cells) (hp _ _ _ hpo) hl3 hl4
        rw [List.map_cons, h1]
        exact buildAM_sound h hp ps (by rw [h2]; exact hc.splice hcs off) hw
      · exact hw.elim
    · exact hw.elim
end

section
variable {P : Program} {E : Env} {o : Oper}
theorem ok_build (hT : TabOK P E.T) {ty : TypeId} {ps : Array (Nat × Operand)} (ho : o.op = .build ty ps) : OpOK P E o := by
  intro w0 B Z0 gv s a w Z RV L r t K Q hd h hw
  simp only [astep, ho] at hw
  split at hw
  · rename_i d ht
    split at hw
    · exact hw.elim
    · rename_i hpo
      simp only [Bool.not_eq_true', Bool.not_eq_false] at hpo
      obtain ⟨hu, i, hi, hsz, hby, hz, hzs⟩ := hT _ _ ht
      have fin : ∀ cells', P.built ty (ps.map fun p => (p.1, a.eval p.2)).toList = some cells' → (execOp a.eval o).run P w = .ok (.value (.agg cells')) w := fun cells' hb => by
        simp [execOp, ho, run_build w ty (ps.map fun p => (p.1, a.eval p.2)) cells' hb]
      unfold partsOk at hpo
      split at hpo
      · rename_i fs hds
        have hall : ∀ (l : List Field), (∀ f ∈ l, (E.T f.type).isSome = true) → l.mapM (fun f => (P.info? f.type).map fun i => (f.offset, i.size)) = some (l.map fun f => (f.offset, ((E.T f.type).map (·.size)).getD 0)) := by
          intro l
          induction l with
          | nil => intro _; rfl
          | cons f l ih =>
            intro hl
            obtain ⟨d', hd'⟩ := Option.isSome_iff_exists.1 (hl f (by simp))
            obtain ⟨-, i', hi', hsz', -⟩ := hT _ _ hd'
            rw [List.mapM_cons, ih fun f hf => hl f (by simp [hf])]
            simp [hi', hd', hsz']
        have hall' := hall fs.toList fun f hf => by
          exact List.all_eq_true.1 hpo f hf
        obtain ⟨cs', cells', r', h1, h2, hw⟩ := buildAM_sound (place := ((fs.toList.map fun f => (f.offset, ((E.T f.type).map (·.size)).getD 0)).toArray[·]?)) h (fun i off size hpf => by
          rw [hds] at hpf
          simp only [partOff, Option.bind_eq_some_iff, Option.map_eq_some_iff] at hpf
          obtain ⟨f, hf, d', hd', e1⟩ := hpf
          simp [hf, hd', e1]) ps.toList (SCells.of_c _) hw
        refine fin_value hd h hw (v := .agg cs') ⟨cells', rfl, h2⟩ (fin _ ?_)
        simp only [Program.built, hi, hu, hds, hz, hall']
        simpa using h1
      · rename_i n e hds
        obtain ⟨d', hd'⟩ := Option.isSome_iff_exists.1 hpo
        obtain ⟨-, i', hi', hsz', -⟩ := hT _ _ hd'
        obtain ⟨cs', cells', r', h1, h2, hw⟩ := buildAM_sound (place := fun i => some (i * i'.size, i'.size)) h (fun i off size hpf => by
          rw [hds] at hpf
          simp only [partOff, hd', Option.map_some, Option.some.injEq, Prod.mk.injEq] at hpf
          obtain ⟨e1, e2⟩ := hpf
          subst e1 e2
          simp [hsz']) ps.toList (SCells.of_c _) hw
        refine fin_value hd h hw (v := .agg cs') ⟨cells', rfl, h2⟩ (fin _ ?_)
        simp only [Program.built, hi, hu, hds, hz, hi']
        simpa using h1
      · cases hpo
  · exact hw.elim

theorem zero_cells {z : Array Value} {sz : Nat} (hz : z.size = sz) (n : Nat) : (madeCells z (n * sz)).toList = (List.replicate n z.toList).flatten := by
  subst hz
  apply List.ext_getElem?
  intro j
  by_cases hj : j < n * z.size
  · have h0 : 0 < z.size := Nat.pos_of_ne_zero fun e => by rw [e] at hj; omega
    have hm : j % z.size < z.size := Nat.mod_lt _ h0
    have key : ∀ (n j : Nat), j < n * z.size → (List.replicate n z.toList).flatten[j]? = some z[j % z.size]! := by
      intro n
      induction n with
      | zero => intro j hj; omega
      | succ n ih =>
        intro j hj
        rw [List.replicate_succ, List.flatten_cons]
        by_cases hlt : j < z.size
        · rw [List.getElem?_append_left (by simpa using hlt), Nat.mod_eq_of_lt hlt]
          rw [Array.getElem?_toList, Array.getElem?_eq_getElem hlt, getElem!_pos z j hlt]
        · rw [List.getElem?_append_right (by simp; omega)]
          rw [Nat.succ_mul] at hj
          rw [ih _ (by simp; omega)]
          rw [Array.length_toList, ← Nat.mod_eq_sub_mod (by omega)]
    rw [key n j hj]
    have h9 : (Array.range (n * z.size))[j]? = some j := by rw [Array.getElem?_range, if_pos hj]
    simp only [madeCells, Array.toList_map, List.getElem?_map, Array.getElem?_toList, h9, Option.map_some]
  · rw [List.getElem?_eq_none (by simp [madeCells]; omega), List.getElem?_eq_none (by simp [List.length_flatten]; omega)]
theorem zeros_eq (ty : Ty) (n : Nat) : zeros ty n = ((List.replicate n ty.zero.cells.toList).flatten).map .c := by
  unfold zeros
  split
  · rename_i z hz
    rw [hz]
    induction n with
    | zero => rfl
    | succ n ih => rw [List.replicate_succ, List.replicate_succ, List.flatten_cons, List.map_append, ← ih]; rfl
  · rw [List.map_flatten, List.map_replicate]
theorem Ows.of_c {w : World} {Z : Nat → Prop} : ∀ (vs : List Value), Ows w Z (vs.map .c) vs []
  | [] => .nil Z
  | v :: vs => by simpa using Ows.cons (.c Z v) (Ows.of_c vs)

theorem ok_makeMap {ty : TypeId} (ho : o.op = .makeMap ty none) : OpOK P E o := by
  intro w0 B Z0 gv s a w Z RV L r t K Q hd h hw
  simp only [astep, ho] at hw
  split at hw
  · split at hw
    · rename_i el hel
      have ha := h.alloc (.map #[] 0)
      obtain ⟨s', r', t', RV', L', hk, h'⟩ := setN_sound hw ha.1 hd (V := .map (some w.heap.size)) (l := [w.heap.size])
        (fun R RV' hrf => by
          cases hf : flat el.desc
          · exact Ow.mps (heap_new ..) rfl .nil
          · exact Ow.mp (heap_new ..) rfl (.nil _)) (hdr_map _) (by simp) ha.2
      exact wp_value (w' := w.alloc (.map #[] 0)) (by simp [execOp, ho, Instr.makeMap]) ⟨s', r', t', _, _, _, hk, h'⟩
    · exact hw.elim
  · exact hw.elim

theorem ok_makeSlice (hT : TabOK P E.T) {ty : TypeId} {x y : Operand} (ho : o.op = .makeSlice ty x y) : OpOK P E o := by
  intro w0 B Z0 gv s a w Z RV L r t K Q hd h hw
  simp only [astep, ho] at hw
  split at hw
  · rename_i e sz by_ z ht
    split at hw
    · rename_i el hel
      obtain ⟨k, l, r', hl, hw⟩ := opI_sound hw h
      obtain ⟨k', c, r', hc, hw⟩ := opI_sound hw h
      rw [wp_test] at hw
      obtain ⟨⟨h0, h1, h2⟩, hw⟩ := hw
      split at hw
      · exact hw.elim
      · rename_i hb
        obtain ⟨-, i, hi, hsz, hby, hz, hzs⟩ := hT _ _ hel
        have hu := (hT _ _ ht).1
        have h3 : c ≤ 140737488355328 := by
          have : c * 1 ≤ c * el.bytes := Int.mul_le_mul_of_nonneg_left (by omega) (by omega)
          omega
        have hr := run_make (P := P) w ty e i el.zero hu hi hz k k' l c h0 h1 (by rw [hby, Int.mul_comm]; omega) (by omega)
        have ha := h.alloc (.cells (madeCells el.zero.cells (c.toNat * i.size)) e)
        obtain ⟨s', r', t', RV', L', hk, h'⟩ := setN_sound hw ha.1 hd (V := .slice (some ⟨w.heap.size, 0, none⟩) l.toNat c.toNat) (l := [w.heap.size])
          (fun R RV' hrf => by
            have e1 : (zeros el l.toNat).length = l.toNat * el.size := by rw [zeros_eq]; simp [List.length_flatten, hzs]
            have e2 : (List.replicate l.toNat el.zero.cells.toList).flatten = (madeCells el.zero.cells (c.toNat * i.size)).toList.take (l.toNat * el.size) := by
              rw [hsz, zero_cells hzs]
              have : c.toNat = l.toNat + (c.toNat - l.toNat) := by omega
              rw [this, ← List.replicate_append_replicate, List.flatten_append]
              exact (List.take_left' (by simp [List.length_flatten, hzs])).symm
            cases E.force.contains (o.dst.getD 0)
            · exact Ow.sl (heap_new ..) e1 (by rw [hsz]; exact size_madeCells _ _) (by omega) (by omega) e2 (by rw [zeros_eq]; exact Ows.of_c _)
            · exact Ow.sls (heap_new ..) e1 (by rw [hsz]; exact size_madeCells _ _) (by omega) (by omega) e2 (by rw [zeros_eq]; exact Shs.of_c _)) (hdr_slice ..) (by simp) ha.2
        exact wp_value (by simp [execOp, ho, hl, hc, hr]) ⟨s', r', t', _, _, _, hk, h'⟩
    · exact hw.elim
  · exact hw.elim
end
end Go.Den

/- Rows that are written out; memory of one's own is changed. -/
namespace Go.Den

theorem Ows.cut {w : World} : ∀ {Z : Nat → Prop} {xs : List Cell} {vs : List Value} {l : List Nat}, Ows w Z xs vs l → ∀ n, ∃ l1 l2, l = l1 ++ l2 ∧ Ows w Z (xs.take n) (vs.take n) l1 ∧ Ows w Z (xs.drop n) (vs.drop n) l2
  | _, _, _, _, .nil _, n => ⟨[], [], rfl, by simpa using .nil _, by simpa using .nil _⟩
  | _, _, _, _, .cons h t, 0 => ⟨[], _, rfl, .nil _, .cons h t⟩
  | _, _, _, _, .cons (l := l) h t, n + 1 => by
    obtain ⟨l1, l2, e, h1, h2⟩ := t.cut n
    exact ⟨l ++ l1, l2, by rw [e, List.append_assoc], .cons h h1, h2⟩
/-- Cells are replaced; what was there is lost. -/
theorem Ows.splice {w : World} {Z : Nat → Prop} {ds ys : List Cell} {vs us : List Value} {l m : List Nat} (h : Ows w Z ds vs l) (k : Ows w Z ys us m) (off : Nat) :
    ∃ l1 l2, (l1 ++ l2).Sublist l ∧ Ows w Z (splice ds off ys) (spl vs off us) (l1 ++ m ++ l2) := by
  obtain ⟨l1, l2, e, h1, h2⟩ := h.cut off
  obtain ⟨l3, l4, e', h3, h4⟩ := h2.cut ys.length
  refine ⟨l1, l4, by rw [e, e']; exact (List.Sublist.refl _).append (List.sublist_append_right _ _), ?_⟩
  have := (h1.append k).append h4
  unfold Den.splice spl
  rw [List.drop_drop, List.drop_drop] at this
  rw [← k.length]
  exact this
theorem nodup_mid {l1 l2 m l : List Nat} (hs : (l1 ++ l2).Sublist l) (h : (l ++ m).Nodup) : (l1 ++ m ++ l2).Nodup := by
  have h1 : (l1 ++ l2 ++ m).Nodup := h.sublist (hs.append (List.Sublist.refl _))
  have hp : (l1 ++ m ++ l2).Perm (l1 ++ l2 ++ m) := by
    rw [List.append_assoc, List.append_assoc]
    exact List.perm_append_comm.append_left l1
  exact hp.nodup_iff.2 h1
theorem Taken.sub' {L L' : Nat → Nat → List Nat} {l l' : List Nat} (h : Taken L L' l) (hn : l'.Nodup) (hs : ∀ b, b ∈ l' → b ∈ l) : Taken L L' l' :=
  ⟨h.sub, hn, fun b hb => h.from_ b (hs b hb), fun b hb => h.gone b (hs b hb)⟩

theorem sh_one {w : World} {Z : Nat → Prop} : ∀ {x : Cell} {v : Value}, Sh w Z x v → okC x = true → v.oneCell' = true
  | _, _, .c v, h => h
  | _, _, .hole _, h => by simp [okC] at h
  | _, _, .shd h, hk => sh_one h (by simpa [okC] using hk)
  | _, _, .sl .., _ => rfl
  | _, _, .nil _ _, _ => rfl
  | _, _, .ptr .., _ => rfl
  | _, _, .mp .., _ => rfl
  | _, _, .fn .., _ => rfl
theorem ow_one {w : World} {Z : Nat → Prop} {x : Cell} {v : Value} {l : List Nat} (h : Ow w Z x v l) (hk : okC x = true) : v.oneCell' = true := by
  cases h with
  | c => exact hk
  | hole => simp [okC] at hk
  | shd h => exact sh_one h (by simpa [okC] using hk)
  | _ => rfl
theorem ows_one {w : World} : ∀ {Z : Nat → Prop} {xs : List Cell} {vs : List Value} {l : List Nat}, Ows w Z xs vs l → xs.all okC = true → ∀ v ∈ vs, v.oneCell' = true
  | _, _, _, _, .nil _, _, v, hv => by simp at hv
  | _, _, _, _, .cons h t, hk, v, hv => by
    simp only [List.all_cons, Bool.and_eq_true] at hk
    simp only [List.mem_cons] at hv
    rcases hv with rfl | hv
    · exact ow_one h hk.1
    · exact ows_one t hk.2 v hv
theorem shs_one {w : World} {Z : Nat → Prop} : ∀ {xs : List Cell} {vs : List Value}, Shs w Z xs vs → xs.all okC = true → ∀ v ∈ vs, v.oneCell' = true
  | _, _, .nil, _, v, hv => by simp at hv
  | _, _, .cons h t, hk, v, hv => by
    simp only [List.all_cons, Bool.and_eq_true] at hk
    simp only [List.mem_cons] at hv
    rcases hv with rfl | hv
    · exact sh_one h hk.1
    · exact shs_one t hk.2 v hv

/-- The values of a slot's cells. -/
theorem slot_vals {w : World} {Z : Nat → Prop} {R : Nat → List Cell} {RV : Nat → Nat → Value} {v : SV} {V : Value} (h : Slot w Z R RV v V) (hk : svOk v = true) :
    ∃ vs, SCells w Z R RV (svCells v) vs ∧ ((∀ u ∈ vs, u.oneCell' = true) → V.cells.toList = vs) := by
  cases v with
  | one x => exact ⟨[V], .cons h .nil, fun h1 => by rw [cells_one (h1 V (by simp))]⟩
  | agg xs => obtain ⟨us, rfl, h⟩ := h; exact ⟨us.toList, h, fun _ => rfl⟩
  | _ => simp [svOk] at hk

section
variable {E : Env} {w0 : World} {B Z0 : Nat → Prop} {gv : List Value} {s : List Ent} {a : Act} {w : World} {Z : Nat → Prop} {RV : Nat → Nat → Value}
  {L : Nat → Nat → List Nat} {C : FuncId → List Arg → Res → Prop} {α : Type} {t : List Nat} {K : α → List Ent → List Nat → List Nat → Prop}

theorem slot_refs {s s' : List Ent} (hr : Refs w w (rOf s) (rOf s') RV RV) {v : SV} {V : Value} (h : Slot w Z (rOf s) RV v V) : Slot w Z (rOf s') RV v V :=
  h.mono (fun _ h => h) (fun _ _ => rfl) hr

theorem buildSlAM_sound {n : Nat} {place : Nat → Option (Nat × Nat)} (hp : ∀ i, place i = some (i * n, n)) {L0 : Nat → Nat → List Nat} :
    ∀ (ps : List (Nat × Operand)) {s : List Ent} {L : Nat → Nat → List Nat} {cs : List Cell} {cells : Array Value} {l : List Nat} {k : List Cell → AM α} {r t : List Nat},
      At E w0 B Z0 gv s a w Z RV L → Taken L0 L l → Ows w Z cs cells.toList l → wp C (buildSlAM E n ps cs k) s r t K →
      ∃ s' L' cs' cells' l' r' t', At E w0 B Z0 gv s' a w Z RV L' ∧ sOf s' = sOf s ∧ Refs w w (rOf s) (rOf s') RV RV ∧ Taken L0 L' l' ∧
        Instr.fill place cells (ps.map fun p => (p.1, a.eval p.2)) = some cells' ∧ Ows w Z cs' cells'.toList l' ∧ cells'.size = cells.size ∧ wp C (k cs') s' r' t' K
  | [], s, L, cs, cells, l, k, r, t, h, ht, hc, hw => ⟨s, L, cs, cells, l, r, t, h, rfl, Refs.refl .., ht, rfl, hc, rfl, hw⟩
  | (i, x) :: ps, s, L, cs, cells, l, k, r, t, h, ht, hc, hw => by
    unfold buildSlAM at hw
    obtain ⟨v, r', hv, hw⟩ := opd_sound hw h
    by_cases hok : svOk v = true
    · obtain ⟨vs, hvs, hvc⟩ := slot_vals hv hok
      obtain ⟨ys, m, s1, L1, r1, t1, g1, g2, g3, g4, g5, hw⟩ := (pk_sound 12).2 h hvs hw
      split at hw
      · rename_i hcond
        simp only [Bool.and_eq_true, decide_eq_true_eq] at hcond
        obtain ⟨⟨⟨hl, ho⟩, -⟩, hwr⟩ := hcond
        have hcv := hvc (ows_one g5 hwr)
        rw [← hcv] at g5
        have hl1 : ys.length = (a.eval x).cells.size := by simpa using g5.length
        have hl2 : cs.length = cells.size := by simpa using hc.length
        obtain ⟨cells', h1, h2, h3⟩ := fill_step (rest := ps.map fun p => (p.1, a.eval p.2)) (V := a.eval x) (cells := cells) (hp i) (by omega) (by omega)
        have ht1 := ht.append g4
        obtain ⟨l1, l2, hsub, hsp⟩ := hc.splice g5 (i * n)
        have ht2 : Taken L0 L1 (l1 ++ m ++ l2) := ht1.sub' (nodup_mid hsub ht1.nodup) fun b hb => by
          simp only [List.append_assoc, List.mem_append] at hb ⊢
          rcases hb with hb | hb | hb
          · exact .inl (hsub.subset (by simp [hb]))
          · exact .inr hb
          · exact .inl (hsub.subset (by simp [hb]))
        obtain ⟨s', L', cs', cells'', l', r', t', k1, k2, k3, k4, k5, k6, k7, k8⟩ := buildSlAM_sound hp ps g1 ht2 (by rw [h2]; exact hsp) hw
        exact ⟨s', L', cs', cells'', l', r', t', k1, k2.trans g2, g3.trans k3, k4, by rw [List.map_cons, h1]; exact k5, k6, k7.trans h3, k8⟩
      · exact hw.elim
    · have hn : svCells v = [] := by cases v <;> simp_all [svOk, svCells]
      rw [hn] at hw
      simp only [pkL] at hw
      split at hw
      · rename_i hcond
        simp [hok] at hcond
      · exact hw.elim

/-- Blocks that are taken are shared from now on. -/
theorem At.share (h : At E w0 B Z0 gv s a w Z RV L) {l : List Nat} (hl : Free w0 B w Z L l) : At E w0 B Z0 gv s a w (fun b => Z b ∨ b ∈ l) RV L :=
  h.move (Ext.refl (fun _ => False) w) (by simp) (fun _ h => .inl h) fun b hb => hb.imp id fun h' => ⟨(hl b h').2.1, (hl b h').2.2.1, (hl b h').2.2.2⟩
theorem Taken.free {L0 : Nat → Nat → List Nat} {l : List Nat} (ht : Taken L0 L l) {s0 : List Ent} (h0 : At E w0 B Z0 gv s0 a w Z RV L0) : Free w0 B w Z L l := fun b hb => by
  obtain ⟨r, i, hb'⟩ := ht.from_ b hb
  have := h0.inv.own r i b hb'
  exact ⟨this.1, this.2.1, this.2.2, ht.gone b hb⟩
theorem Free.alloc {l : List Nat} (hl : Free w0 B w Z L l) (h : At E w0 B Z0 gv s a w Z RV L) (o : Obj) : Free w0 B (w.alloc o) Z L (w.heap.size :: l) := fun b hb => by
  simp only [List.mem_cons] at hb
  rcases hb with rfl | hb
  · exact (h.alloc o).2 _ (by simp)
  · have := hl b hb
    exact ⟨this.1, by simp; omega, this.2.2⟩
theorem ows_alloc {w : World} {Z : Nat → Prop} {xs : List Cell} {vs : List Value} {l : List Nat} (h : Ows w Z xs vs l) (hz : ∀ b, Z b → b < w.heap.size) (hl : ∀ b, b ∈ l → b < w.heap.size) (o : Obj) : Ows (w.alloc o) Z xs vs l := by
  have key : ∀ b, b < w.heap.size → (w.alloc o).heap[b]? = w.heap[b]? := fun b hb => by
    show (w.heap.push o)[b]? = _
    rw [Array.getElem?_push, if_neg (Nat.ne_of_lt hb)]
  exact h.frame (fun _ h => h) (fun b hb => key b (hz b hb)) fun b hb => key b (hl b hb)
theorem shs_alloc {w : World} {Z : Nat → Prop} {xs : List Cell} {vs : List Value} (h : Shs w Z xs vs) (hz : ∀ b, Z b → b < w.heap.size) (o : Obj) : Shs (w.alloc o) Z xs vs :=
  h.frame (fun _ h => h) fun b hb => by
    show (w.heap.push o)[b]? = _
    rw [Array.getElem?_push, if_neg (Nat.ne_of_lt (hz b hb))]
end

section
variable {P : Program} {E : Env} {o : Oper}
theorem ok_buildSlice (hT : TabOK P E.T) {ty : TypeId} {len : Nat} {ps : Array (Nat × Operand)} (ho : o.op = .buildSlice ty len ps) : OpOK P E o := by
  intro w0 B Z0 gv s a w Z RV L r t K Q hd h hw
  simp only [astep, ho] at hw
  split at hw
  · rename_i e sz by_ z ht
    split at hw
    · rename_i el hel
      split at hw
      · exact hw.elim
      · rename_i hsmall
        simp only [Bool.or_eq_true, decide_eq_true_eq, not_or] at hsmall
        obtain ⟨-, i, hi, hsz, hby, hz, hzs⟩ := hT _ _ hel
        have hu := (hT _ _ ht).1
        have hz0 : (zeros el len) = ((madeCells el.zero.cells (len * el.size)).toList).map .c := by rw [zeros_eq, zero_cells hzs]
        rw [hz0] at hw
        obtain ⟨s', L', cs', cells', l', r', t', k1, k2, k3, k4, k5, k6, k7, k8⟩ := buildSlAM_sound (place := fun i => some (i * el.size, el.size)) (fun i => rfl) ps.toList h (Taken.nil L) (Ows.of_c _) hw
        have hrun : (execOp a.eval o).run P w = .ok (.value (.slice (some ⟨w.heap.size, 0, none⟩) len len)) (w.alloc (.cells cells' e)) := by
          have h1 : ¬ (len * el.size > 16777216) := by omega
          by_cases h0 : len * el.size = 0
          · have : madeCells el.zero.cells (len * el.size) = #[] := by simp [madeCells, h0]
            rw [this] at k5
            simp only [execOp, ho, Instr.buildSlice]
            have hr0 : Array.map (fun (_ : Nat) => (default : Value)) (Array.range 0) = #[] := by simp
            simp [run_underlying hu, sizeOf, typeInfo, hi, hsz, h0, newRow]
            rw [hr0, k5]
            simp
          · rw [madeCells] at k5
            simp only [execOp, ho, Instr.buildSlice]
            simp [run_underlying hu, sizeOf, typeInfo, zeroValue, hi, hsz, hz, h1, h0, newRow, k5]
        have hlen : cells'.size = len * el.size := by rw [k7, size_madeCells]
        have hcl : cs'.length = len * el.size := by rw [k6.length]; simpa using hlen
        have hfree := k4.free h
        have hcapl : len ≤ 9223372036854775807 := by
          have := Nat.le_mul_of_pos_right len (Nat.pos_of_ne_zero hsmall.2)
          omega
        have hne : ∀ b, b ∈ l' → b ≠ w.heap.size := fun b hb e => by
          have := (hfree b hb).2.1
          omega
        split at k8
        · have h1 := k1.share hfree
          have h2 := h1.alloc (.cells cells' e)
          have hsh : Shs w (fun b => Z b ∨ b ∈ l') cs' cells'.toList := k6.sh (fun _ h => .inl h) fun _ h => .inr h
          obtain ⟨s'', r'', t'', RV', L'', hk, h'⟩ := setN_sound k8 h2.1 hd (V := .slice (some ⟨w.heap.size, 0, none⟩) len len) (l := [w.heap.size])
            (fun R RV' hrf => Ow.sls (heap_new ..) (by rw [hsh.roL.length]; simpa using hlen) hlen (Nat.le_refl _) hcapl (List.take_of_length_le (by simp [hlen])).symm (shs_alloc hsh h1.inv.zlt _).roL) (hdr_slice ..) (by simp) h2.2
          exact wp_value hrun ⟨s'', r'', t'', _, _, _, hk, h'⟩
        · rename_i hno
          simp only [Bool.or_eq_true, not_or, Bool.not_eq_true] at hno
          have h2 := k1.alloc (.cells cells' e)
          obtain ⟨s'', r'', t'', RV', L'', hk, h'⟩ := setN_sound k8 h2.1 hd (V := .slice (some ⟨w.heap.size, 0, none⟩) len len) (l := w.heap.size :: l')
            (fun R RV' hrf => Ow.sl (heap_new ..) hcl hlen (Nat.le_refl _) hcapl (List.take_of_length_le (by simp [hlen])).symm
              ((ows_alloc k6 k1.inv.zlt (fun b hb => (hfree b hb).2.1) _).noShd hno.2)) (hdr_slice ..)
            (List.nodup_cons.2 ⟨fun hb => hne _ hb rfl, k4.nodup⟩) (hfree.alloc k1 _)
          exact wp_value hrun ⟨s'', r'', t'', _, _, _, hk, h'⟩
    · exact hw.elim
  · exact hw.elim
end
end Go.Den
