/-
  No cell of these rows narrows 'for every input' (looked for: loops, veiled, ifaces, maps, wideKeys, modest, calm, conditions, laid).
  DERIVED. THE GIVEN ROWS OF THIS SEAT. 3 by the template 'for every input the law returns true; each argument reads behind the call as it read before'; 0 by the template 'total and deterministic' (their statements: YtfenloempdhknaaTotals.lean).
  GIVEN WITH THE SEED: the statements are not yours to turn. If you find one false, say at which input.
  Laid BY PROGRAM, IN A SANDBOX (cutbox-rows.mjs): the forced cells as the released guide's own fill.sh prints them over the translation 200911cd03e9c116… (all of the seat's roots in one cut). By AI agents, Wed Nov 11 2026. No macro, syntax, notation, axiom, sorry.
-/
import Derived.Test.YtfenloempdhknaaChecked
import GoSem.Claim
import GoSem.ClaimJoined
import GoSem.ClaimMapViews
import Derived.JoinedTies
import Derived.KernelRfl
namespace Go.Proofs.Ytfenloempdhknaa
/- THE CELL 'sum', in the pinned program and in every row, IS THE sha256 OF THE DUMP (.gsa) THAT YtfenloempdhknaaProg.lean LOADS. Nothing in Lean hashes anything: it is a label: what it is worth is what the hold of that sum in a sandbox is worth. -/
noncomputable def Try.pinned : Pinned := { name := "ytfenloempdhknaa", sum := "200911cd03e9c116249c327cc1149432b4faee7888bbacf7234132e734adc476", checked := Try.checked }
namespace Rows
def none {H : Type} : Left H := { results := [], args := [] }

/-- 'switchboardlaw16.AttemptOnce': WHATEVER THE INPUT: true; the input reads as it did. -/
def attemptOnceSpec : ChangeSpec := { name := "attemptOnce", fn := fun _ => fun
  | [d1, d2, d3, d4, d5] => { results := [.lit (.bool true)], args := [d1, d2, d3, d4, d5] }
  | _ => none }
def attemptOnceRow : OpenClaim := { program := "ytfenloempdhknaa", sum := "200911cd03e9c116249c327cc1149432b4faee7888bbacf7234132e734adc476", func := "switchboard/switchboardlaw16.AttemptOnce", spec := "attemptOnce", unfollowed := true, recurses := true, apart := false }
def AttemptOnceSaid : Prop := attemptOnceRow.holds Try.pinned (OpenSpec.ofChange attemptOnceSpec)

/-- ITS FALSE NEIGHBOUR: 'it returns false'. Refute it at one input. -/
def attemptOnceWrong : ChangeSpec := { name := "attemptOnce", fn := fun _ => fun
  | [d1, d2, d3, d4, d5] => { results := [.lit (.bool false)], args := [d1, d2, d3, d4, d5] }
  | _ => none }
def AttemptOnceWrongFalsely : Prop := attemptOnceRow.holds Try.pinned (OpenSpec.ofChange attemptOnceWrong)

/-- 'switchboardlaw16.AttemptStops': WHATEVER THE INPUT: true; the input reads as it did. -/
def attemptStopsSpec : ChangeSpec := { name := "attemptStops", fn := fun _ => fun
  | [d1, d2] => { results := [.lit (.bool true)], args := [d1, d2] }
  | _ => none }
def attemptStopsRow : OpenClaim := { program := "ytfenloempdhknaa", sum := "200911cd03e9c116249c327cc1149432b4faee7888bbacf7234132e734adc476", func := "switchboard/switchboardlaw16.AttemptStops", spec := "attemptStops", unfollowed := true, recurses := true, apart := false }
def AttemptStopsSaid : Prop := attemptStopsRow.holds Try.pinned (OpenSpec.ofChange attemptStopsSpec)

/-- ITS FALSE NEIGHBOUR: 'it returns false'. Refute it at one input. -/
def attemptStopsWrong : ChangeSpec := { name := "attemptStops", fn := fun _ => fun
  | [d1, d2] => { results := [.lit (.bool false)], args := [d1, d2] }
  | _ => none }
def AttemptStopsWrongFalsely : Prop := attemptStopsRow.holds Try.pinned (OpenSpec.ofChange attemptStopsWrong)

/-- 'switchboardlaw16.AttemptSums': WHATEVER THE INPUT: true; the input reads as it did. -/
def attemptSumsSpec : ChangeSpec := { name := "attemptSums", fn := fun _ => fun
  | [d1, d2] => { results := [.lit (.bool true)], args := [d1, d2] }
  | _ => none }
def attemptSumsRow : OpenClaim := { program := "ytfenloempdhknaa", sum := "200911cd03e9c116249c327cc1149432b4faee7888bbacf7234132e734adc476", func := "switchboard/switchboardlaw16.AttemptSums", spec := "attemptSums", unfollowed := true, recurses := true, apart := false }
def AttemptSumsSaid : Prop := attemptSumsRow.holds Try.pinned (OpenSpec.ofChange attemptSumsSpec)

/-- ITS FALSE NEIGHBOUR: 'it returns false'. Refute it at one input. -/
def attemptSumsWrong : ChangeSpec := { name := "attemptSums", fn := fun _ => fun
  | [d1, d2] => { results := [.lit (.bool false)], args := [d1, d2] }
  | _ => none }
def AttemptSumsWrongFalsely : Prop := attemptSumsRow.holds Try.pinned (OpenSpec.ofChange attemptSumsWrong)

/- THE SECOND FORM. 'bulk': how many values and letters a reading holds, each counted each time it is reached (what is shared counts as often as it is met; a slice's spare places count too). A statement '..UptoSaid' is the law's where the arguments, and the package variables that the reading takes, are together of bulk at most 1048576: NARROWER than '..Said'. Prove '..Said' where nothing that the law and all that it calls make is longer than what came in: it says more and counts as full. Else prove '..UptoSaid'. A law counts once. -/
mutual
def uptoBulk {H : Type} : DataW H → Nat
  | .lit (.string bytes) => bytes.length + 1
  | .lit _ => 1
  | .nil => 1
  | .ptr d => uptoBulk d + 1
  | .slice elems spare => uptoBulkAll elems + uptoBulkAll spare + 1
  | .agg parts => uptoBulkAll parts + 1
  | .iface _ d => uptoBulk d + 1
  | .map entries => uptoBulkEntries entries + 1
  | .held _ => 1
def uptoBulkAll {H : Type} : List (DataW H) → Nat
  | [] => 0
  | d :: r => uptoBulk d + uptoBulkAll r
def uptoBulkEntries {H : Type} : List (Lit × DataW H) → Nat
  | [] => 0
  | x :: r => uptoBulkEntry x + uptoBulkEntries r
def uptoBulkEntry {H : Type} : Lit × DataW H → Nat
  | (.string bytes, d) => bytes.length + uptoBulk d + 1
  | (_, d) => uptoBulk d + 1
 end
def uptoSmall : (H : Type) → List (DataW H) → Bool := fun _ ds => decide (uptoBulkAll ds ≤ 1048576)
def OpenSpec.upto (s : _root_.Go.ChangeSpec) : _root_.Go.OpenSpec := { _root_.Go.OpenSpec.ofChange s with cond := some uptoSmall }

/-- 'switchboardlaw16.AttemptOnce', WHERE WHAT IT READS IS OF BULK AT MOST 1048576: true; the input reads as it did. -/
def attemptOnceUptoRow : OpenClaim := { program := "ytfenloempdhknaa", sum := "200911cd03e9c116249c327cc1149432b4faee7888bbacf7234132e734adc476", func := "switchboard/switchboardlaw16.AttemptOnce", spec := "attemptOnce", unfollowed := true, recurses := true, apart := false, narrowed := true }
def AttemptOnceUptoSaid : Prop := attemptOnceUptoRow.holds Try.pinned (OpenSpec.upto attemptOnceSpec)

/-- 'switchboardlaw16.AttemptStops', WHERE WHAT IT READS IS OF BULK AT MOST 1048576: true; the input reads as it did. -/
def attemptStopsUptoRow : OpenClaim := { program := "ytfenloempdhknaa", sum := "200911cd03e9c116249c327cc1149432b4faee7888bbacf7234132e734adc476", func := "switchboard/switchboardlaw16.AttemptStops", spec := "attemptStops", unfollowed := true, recurses := true, apart := false, narrowed := true }
def AttemptStopsUptoSaid : Prop := attemptStopsUptoRow.holds Try.pinned (OpenSpec.upto attemptStopsSpec)

/-- 'switchboardlaw16.AttemptSums', WHERE WHAT IT READS IS OF BULK AT MOST 1048576: true; the input reads as it did. -/
def attemptSumsUptoRow : OpenClaim := { program := "ytfenloempdhknaa", sum := "200911cd03e9c116249c327cc1149432b4faee7888bbacf7234132e734adc476", func := "switchboard/switchboardlaw16.AttemptSums", spec := "attemptSums", unfollowed := true, recurses := true, apart := false, narrowed := true }
def AttemptSumsUptoSaid : Prop := attemptSumsUptoRow.holds Try.pinned (OpenSpec.upto attemptSumsSpec)

end Rows
end Go.Proofs.Ytfenloempdhknaa
