import Derived.Test.YtpopepcmfanegaaDoorFr
set_option autoImplicit false
set_option linter.unusedSimpArgs false
set_option linter.unusedVariables false
namespace Go.Proofs.YtpopepcmfanegaaDoor
open Go.Den
/-- Which letters have no image. -/
def noImg (im : List (List Nat)) (a : Nat) : Bool := decide ((im.getD a []).length = 0)
/-- What ErasedLetters answers. -/
def eraR (n : Int) (ds : List Int) (m : Int) (es : List Int) (rs : List (List Int)) : Nat × Int :=
  if morphC n ds m es rs true = 0 then (maskN (noImg (rs.map (·.map Int.toNat))) rs.length, 0) else (0, morphC n ds m es rs true)
theorem eraR_bad {n : Int} {ds : List Int} {m : Int} {es : List Int} {rs : List (List Int)} (h : morphC n ds m es rs true ≠ 0) : eraR n ds m es rs = (0, morphC n ds m es rs true) := by
  unfold eraR
  rw [if_neg h]
theorem eraR_ok {n : Int} {ds : List Int} {m : Int} {es : List Int} {rs : List (List Int)} {im : List (List Nat)} (h : morphC n ds m es rs true = 0) (e3 : rs.map (·.map Int.toNat) = im) : eraR n ds m es rs = (maskN (noImg im) im.length, 0) := by
  unfold eraR
  rw [if_pos h, ← e3, List.length_map]
theorem rows_get_len {im : List (List Nat)} {a : Nat} (ha : a < im.length) (h2 : a < (im.map natI).length) : ((im.map natI)[a]'h2).length = (im.getD a []).length := by rw [rows_get ha h2, natI_length]
end Go.Proofs.YtpopepcmfanegaaDoor
