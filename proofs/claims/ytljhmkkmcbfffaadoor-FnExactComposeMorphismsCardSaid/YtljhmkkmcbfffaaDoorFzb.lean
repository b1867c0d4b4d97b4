import Derived.Test.YtljhmkkmcbfffaaDoorFza
set_option autoImplicit false
set_option linter.unusedSimpArgs false
set_option linter.unusedVariables false
namespace Go.Proofs.YtljhmkkmcbfffaaDoor
open Go.Den
set_option maxHeartbeats 4000000 in
set_option maxRecDepth 100000 in
theorem lawComp_ret (n m l : Int) (ds es us : List Int) (fs gs : List (List Int)) (hd : ds.length < 2 ^ 62) (he : es.length < 2 ^ 62) (hu : us.length < 2 ^ 62) (hf : fs.length < 2 ^ 62) (hfx : ∀ r ∈ fs, r.length < 2 ^ 62) (hg : gs.length < 2 ^ 62) (hgx : ∀ r ∈ gs, r.length < 2 ^ 62) :
    Ret Tryd.prog G0 10 [⟨.ro, .agg [i64 n, ints ds]⟩, ⟨.ro, .agg [i64 m, ints es]⟩, ⟨.ro, .agg [i64 l, ints us]⟩, ⟨.ro, .one (rowsI fs)⟩, ⟨.ro, .one (rowsI gs)⟩] ⟨.one (.c (.bool true)), []⟩ := by
  have hS := compS_ret n m l ds es us fs gs hd he hu hf hfx hg hgx
  have hI := compI_ret n m l ds es us fs gs hd he hu hf hfx hg hgx
  rw [rowsC_eq] at hS hI
  exact FnExactComposeMorphisms_gen_ret n ds m es l us fs gs _ _ hd he hu hf hfx hg hgx (compR_small ..).1 (compR_small ..).2 hS hI
end Go.Proofs.YtljhmkkmcbfffaaDoor
