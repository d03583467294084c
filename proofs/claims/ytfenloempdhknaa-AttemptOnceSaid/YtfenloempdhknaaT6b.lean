/- Walks of the seat of chapter 16: what Take returns. -/
import Derived.Test.YtfenloempdhknaaT5
namespace Go.Proofs.Ytfenloempdhknaa
open Go.RowKit
theorem res11 {tmps : Array Value} {W : World} {b : Nat} {c0 c1 c2 c3 c4 c5 c6 c7 c8 c9 c10 c11 c12 c13 c14 c15 v7 : Value} (h6 : tmps[6]?.getD undef = .pointer (some ⟨b, 0, none⟩)) (h7 : tmps[7]?.getD undef = v7)
    (hc : ∀ o, W.cell? ⟨b, o, none⟩ = #[c0, c1, c2, c3, c4, c5, c6, c7, c8, c9, c10, c11, c12, c13, c14, c15][o]?) :
    (results Try.f11 tmps).run Try.prog W = .ok (.tuple #[.agg #[c0, c1, c2, c3, c4, c5, c6, c7, c8, c9, c10, c11, c12, c13, c14, c15], v7]) W := by
  simp [results, Try.results11, go_sem, hc, h6, h7]

end Go.Proofs.Ytfenloempdhknaa
