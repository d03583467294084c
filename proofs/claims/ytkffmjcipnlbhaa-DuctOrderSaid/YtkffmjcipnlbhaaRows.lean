/-
  No cell of these rows narrows 'for every input' (looked for: loops, veiled, ifaces, maps, wideKeys, modest, calm, conditions, laid).
  DERIVED. THE GIVEN ROWS OF THIS SEAT. 4 by the template 'for every input the law returns true; each argument reads behind the call as it read before'; 0 by the template 'total and deterministic' (their statements: YtkffmjcipnlbhaaTotals.lean).
  GIVEN WITH THE SEED: the statements are not yours to turn. If you find one false, say at which input.
  Laid BY PROGRAM, IN A SANDBOX (cutbox-rows.mjs): the forced cells as the released guide's own fill.sh prints them over the translation 282ee669fa2bfbb7… (all of the seat's roots in one cut). By AI agents, Wed Nov 11 2026. No macro, syntax, notation, axiom, sorry.
-/
import Derived.Test.YtkffmjcipnlbhaaChecked
import GoSem.Claim
import GoSem.ClaimJoined
import GoSem.ClaimMapViews
import Derived.JoinedTies
import Derived.KernelRfl
namespace Go.Proofs.Ytkffmjcipnlbhaa
/- THE CELL 'sum', in the pinned program and in every row, IS THE sha256 OF THE DUMP (.gsa) THAT YtkffmjcipnlbhaaProg.lean LOADS. Nothing in Lean hashes anything: it is a label: what it is worth is what the hold of that sum in a sandbox is worth. -/
noncomputable def Try.pinned : Pinned := { name := "ytkffmjcipnlbhaa", sum := "282ee669fa2bfbb7fa66d20cf160d0967a4afc5914cfdf775701e53944c26588", checked := Try.checked }
namespace Rows
def none {H : Type} : Left H := { results := [], args := [] }

/-- 'switchboardlaw05.DuctOrder': WHATEVER THE INPUT: true; the input reads as it did. -/
def ductOrderSpec : ChangeSpec := { name := "ductOrder", fn := fun _ => fun
  | [d1, d2] => { results := [.lit (.bool true)], args := [d1, d2] }
  | _ => none }
def ductOrderRow : OpenClaim := { program := "ytkffmjcipnlbhaa", sum := "282ee669fa2bfbb7fa66d20cf160d0967a4afc5914cfdf775701e53944c26588", func := "switchboard/switchboardlaw05.DuctOrder", spec := "ductOrder", unfollowed := true, recurses := true, apart := false }
def DuctOrderSaid : Prop := ductOrderRow.holds Try.pinned (OpenSpec.ofChange ductOrderSpec)

/-- ITS FALSE NEIGHBOUR: 'it returns false'. Refute it at one input. -/
def ductOrderWrong : ChangeSpec := { name := "ductOrder", fn := fun _ => fun
  | [d1, d2] => { results := [.lit (.bool false)], args := [d1, d2] }
  | _ => none }
def DuctOrderWrongFalsely : Prop := ductOrderRow.holds Try.pinned (OpenSpec.ofChange ductOrderWrong)

/-- 'switchboardlaw05.DuctMany': WHATEVER THE INPUT: true; the input reads as it did. -/
def ductManySpec : ChangeSpec := { name := "ductMany", fn := fun _ => fun
  | [d1, d2] => { results := [.lit (.bool true)], args := [d1, d2] }
  | _ => none }
def ductManyRow : OpenClaim := { program := "ytkffmjcipnlbhaa", sum := "282ee669fa2bfbb7fa66d20cf160d0967a4afc5914cfdf775701e53944c26588", func := "switchboard/switchboardlaw05.DuctMany", spec := "ductMany", unfollowed := true, recurses := true, apart := false }
def DuctManySaid : Prop := ductManyRow.holds Try.pinned (OpenSpec.ofChange ductManySpec)

/-- ITS FALSE NEIGHBOUR: 'it returns false'. Refute it at one input. -/
def ductManyWrong : ChangeSpec := { name := "ductMany", fn := fun _ => fun
  | [d1, d2] => { results := [.lit (.bool false)], args := [d1, d2] }
  | _ => none }
def DuctManyWrongFalsely : Prop := ductManyRow.holds Try.pinned (OpenSpec.ofChange ductManyWrong)

/-- 'switchboardlaw05.DuctTurns': WHATEVER THE INPUT: true; the input reads as it did. -/
def ductTurnsSpec : ChangeSpec := { name := "ductTurns", fn := fun _ => fun
  | [d1, d2] => { results := [.lit (.bool true)], args := [d1, d2] }
  | _ => none }
def ductTurnsRow : OpenClaim := { program := "ytkffmjcipnlbhaa", sum := "282ee669fa2bfbb7fa66d20cf160d0967a4afc5914cfdf775701e53944c26588", func := "switchboard/switchboardlaw05.DuctTurns", spec := "ductTurns", unfollowed := true, recurses := true, apart := false }
def DuctTurnsSaid : Prop := ductTurnsRow.holds Try.pinned (OpenSpec.ofChange ductTurnsSpec)

/-- ITS FALSE NEIGHBOUR: 'it returns false'. Refute it at one input. -/
def ductTurnsWrong : ChangeSpec := { name := "ductTurns", fn := fun _ => fun
  | [d1, d2] => { results := [.lit (.bool false)], args := [d1, d2] }
  | _ => none }
def DuctTurnsWrongFalsely : Prop := ductTurnsRow.holds Try.pinned (OpenSpec.ofChange ductTurnsWrong)

/-- 'switchboardlaw05.DuctNumbers': WHATEVER THE INPUT: true; the input reads as it did. -/
def ductNumbersSpec : ChangeSpec := { name := "ductNumbers", fn := fun _ => fun
  | [d1, d2, d3, d4, d5, d6] => { results := [.lit (.bool true)], args := [d1, d2, d3, d4, d5, d6] }
  | _ => none }
def ductNumbersRow : OpenClaim := { program := "ytkffmjcipnlbhaa", sum := "282ee669fa2bfbb7fa66d20cf160d0967a4afc5914cfdf775701e53944c26588", func := "switchboard/switchboardlaw05.DuctNumbers", spec := "ductNumbers", unfollowed := true, recurses := true, apart := false }
def DuctNumbersSaid : Prop := ductNumbersRow.holds Try.pinned (OpenSpec.ofChange ductNumbersSpec)

/-- ITS FALSE NEIGHBOUR: 'it returns false'. Refute it at one input. -/
def ductNumbersWrong : ChangeSpec := { name := "ductNumbers", fn := fun _ => fun
  | [d1, d2, d3, d4, d5, d6] => { results := [.lit (.bool false)], args := [d1, d2, d3, d4, d5, d6] }
  | _ => none }
def DuctNumbersWrongFalsely : Prop := ductNumbersRow.holds Try.pinned (OpenSpec.ofChange ductNumbersWrong)

/- THE SECOND FORM. 'bulk': how many values and letters a reading holds, each counted each time it is reached (what is shared counts as often as it is met; a slice's spare places count too). A statement '..UptoSaid' is the law's where the arguments, and the package variables that the reading takes, are together of bulk at most 1048576: NARROWER than '..Said'. Prove '..Said' where nothing that the law and all that it calls make is longer than what came in: it says more and counts as full. Else prove '..UptoSaid'. A law counts once. -/
mutual
def uptoBulk {H : Type} : DataW H → Nat
  | .lit (.string bytes) => bytes.length + 1
  | .lit _ => 1
  | .nil => 1
  | .ptr d => uptoBulk d + 1
  | .slice elems spare => uptoBulkAll elems + uptoBulkAll spare + 1
  | .agg parts => uptoBulkAll parts + 1
  | .iface _ d => uptoBulk d + 1
  | .map entries => uptoBulkEntries entries + 1
  | .held _ => 1
def uptoBulkAll {H : Type} : List (DataW H) → Nat
  | [] => 0
  | d :: r => uptoBulk d + uptoBulkAll r
def uptoBulkEntries {H : Type} : List (Lit × DataW H) → Nat
  | [] => 0
  | x :: r => uptoBulkEntry x + uptoBulkEntries r
def uptoBulkEntry {H : Type} : Lit × DataW H → Nat
  | (.string bytes, d) => bytes.length + uptoBulk d + 1
  | (_, d) => uptoBulk d + 1
 end
def uptoSmall : (H : Type) → List (DataW H) → Bool := fun _ ds => decide (uptoBulkAll ds ≤ 1048576)
def OpenSpec.upto (s : _root_.Go.ChangeSpec) : _root_.Go.OpenSpec := { _root_.Go.OpenSpec.ofChange s with cond := some uptoSmall }

/-- 'switchboardlaw05.DuctOrder', WHERE WHAT IT READS IS OF BULK AT MOST 1048576: true; the input reads as it did. -/
def ductOrderUptoRow : OpenClaim := { program := "ytkffmjcipnlbhaa", sum := "282ee669fa2bfbb7fa66d20cf160d0967a4afc5914cfdf775701e53944c26588", func := "switchboard/switchboardlaw05.DuctOrder", spec := "ductOrder", unfollowed := true, recurses := true, apart := false, narrowed := true }
def DuctOrderUptoSaid : Prop := ductOrderUptoRow.holds Try.pinned (OpenSpec.upto ductOrderSpec)

/-- 'switchboardlaw05.DuctMany', WHERE WHAT IT READS IS OF BULK AT MOST 1048576: true; the input reads as it did. -/
def ductManyUptoRow : OpenClaim := { program := "ytkffmjcipnlbhaa", sum := "282ee669fa2bfbb7fa66d20cf160d0967a4afc5914cfdf775701e53944c26588", func := "switchboard/switchboardlaw05.DuctMany", spec := "ductMany", unfollowed := true, recurses := true, apart := false, narrowed := true }
def DuctManyUptoSaid : Prop := ductManyUptoRow.holds Try.pinned (OpenSpec.upto ductManySpec)

/-- 'switchboardlaw05.DuctTurns', WHERE WHAT IT READS IS OF BULK AT MOST 1048576: true; the input reads as it did. -/
def ductTurnsUptoRow : OpenClaim := { program := "ytkffmjcipnlbhaa", sum := "282ee669fa2bfbb7fa66d20cf160d0967a4afc5914cfdf775701e53944c26588", func := "switchboard/switchboardlaw05.DuctTurns", spec := "ductTurns", unfollowed := true, recurses := true, apart := false, narrowed := true }
def DuctTurnsUptoSaid : Prop := ductTurnsUptoRow.holds Try.pinned (OpenSpec.upto ductTurnsSpec)

/-- 'switchboardlaw05.DuctNumbers', WHERE WHAT IT READS IS OF BULK AT MOST 1048576: true; the input reads as it did. -/
def ductNumbersUptoRow : OpenClaim := { program := "ytkffmjcipnlbhaa", sum := "282ee669fa2bfbb7fa66d20cf160d0967a4afc5914cfdf775701e53944c26588", func := "switchboard/switchboardlaw05.DuctNumbers", spec := "ductNumbers", unfollowed := true, recurses := true, apart := false, narrowed := true }
def DuctNumbersUptoSaid : Prop := ductNumbersUptoRow.holds Try.pinned (OpenSpec.upto ductNumbersSpec)

end Rows
end Go.Proofs.Ytkffmjcipnlbhaa
