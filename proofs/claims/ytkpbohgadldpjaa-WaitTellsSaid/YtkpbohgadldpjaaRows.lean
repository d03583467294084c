/-
  No cell of these rows narrows 'for every input' (looked for: loops, veiled, ifaces, maps, wideKeys, modest, calm, conditions, laid).
  DERIVED. THE GIVEN ROWS OF THIS SEAT. 4 by the template 'for every input the law returns true; each argument reads behind the call as it read before'; 0 by the template 'total and deterministic' (their statements: YtkpbohgadldpjaaTotals.lean).
  GIVEN WITH THE SEED: the statements are not yours to turn. If you find one false, say at which input.
  Laid BY PROGRAM, IN A SANDBOX (cutbox-rows.mjs): the forced cells as the released guide's own fill.sh prints them over the translation 94a819113246ba53… (all of the seat's roots in one cut). By AI agents, Wed Nov 11 2026. No macro, syntax, notation, axiom, sorry.
-/
import Derived.Test.YtkpbohgadldpjaaChecked
import GoSem.Claim
import GoSem.ClaimJoined
import GoSem.ClaimMapViews
import Derived.JoinedTies
import Derived.KernelRfl
namespace Go.Proofs.Ytkpbohgadldpjaa
/- THE CELL 'sum', in the pinned program and in every row, IS THE sha256 OF THE DUMP (.gsa) THAT YtkpbohgadldpjaaProg.lean LOADS. Nothing in Lean hashes anything: it is a label: what it is worth is what the hold of that sum in a sandbox is worth. -/
noncomputable def Try.pinned : Pinned := { name := "ytkpbohgadldpjaa", sum := "94a819113246ba53d5eae029d7198bcd67698aa6d136f89603f966f445963da7", checked := Try.checked }
namespace Rows
def none {H : Type} : Left H := { results := [], args := [] }

/-- 'switchboardlaw23.WaitMany': WHATEVER THE INPUT: true; the input reads as it did. -/
def waitManySpec : ChangeSpec := { name := "waitMany", fn := fun _ => fun
  | [d1, d2, d3] => { results := [.lit (.bool true)], args := [d1, d2, d3] }
  | _ => none }
def waitManyRow : OpenClaim := { program := "ytkpbohgadldpjaa", sum := "94a819113246ba53d5eae029d7198bcd67698aa6d136f89603f966f445963da7", func := "switchboard/switchboardlaw23.WaitMany", spec := "waitMany", unfollowed := true, recurses := true, apart := false }
def WaitManySaid : Prop := waitManyRow.holds Try.pinned (OpenSpec.ofChange waitManySpec)

/-- ITS FALSE NEIGHBOUR: 'it returns false'. Refute it at one input. -/
def waitManyWrong : ChangeSpec := { name := "waitMany", fn := fun _ => fun
  | [d1, d2, d3] => { results := [.lit (.bool false)], args := [d1, d2, d3] }
  | _ => none }
def WaitManyWrongFalsely : Prop := waitManyRow.holds Try.pinned (OpenSpec.ofChange waitManyWrong)

/-- 'switchboardlaw23.WaitOrder': WHATEVER THE INPUT: true; the input reads as it did. -/
def waitOrderSpec : ChangeSpec := { name := "waitOrder", fn := fun _ => fun
  | [d1, d2] => { results := [.lit (.bool true)], args := [d1, d2] }
  | _ => none }
def waitOrderRow : OpenClaim := { program := "ytkpbohgadldpjaa", sum := "94a819113246ba53d5eae029d7198bcd67698aa6d136f89603f966f445963da7", func := "switchboard/switchboardlaw23.WaitOrder", spec := "waitOrder", unfollowed := true, recurses := true, apart := false }
def WaitOrderSaid : Prop := waitOrderRow.holds Try.pinned (OpenSpec.ofChange waitOrderSpec)

/-- ITS FALSE NEIGHBOUR: 'it returns false'. Refute it at one input. -/
def waitOrderWrong : ChangeSpec := { name := "waitOrder", fn := fun _ => fun
  | [d1, d2] => { results := [.lit (.bool false)], args := [d1, d2] }
  | _ => none }
def WaitOrderWrongFalsely : Prop := waitOrderRow.holds Try.pinned (OpenSpec.ofChange waitOrderWrong)

/-- 'switchboardlaw23.WaitAll': WHATEVER THE INPUT: true; the input reads as it did. -/
def waitAllSpec : ChangeSpec := { name := "waitAll", fn := fun _ => fun
  | [d1, d2] => { results := [.lit (.bool true)], args := [d1, d2] }
  | _ => none }
def waitAllRow : OpenClaim := { program := "ytkpbohgadldpjaa", sum := "94a819113246ba53d5eae029d7198bcd67698aa6d136f89603f966f445963da7", func := "switchboard/switchboardlaw23.WaitAll", spec := "waitAll", unfollowed := true, recurses := true, apart := false }
def WaitAllSaid : Prop := waitAllRow.holds Try.pinned (OpenSpec.ofChange waitAllSpec)

/-- ITS FALSE NEIGHBOUR: 'it returns false'. Refute it at one input. -/
def waitAllWrong : ChangeSpec := { name := "waitAll", fn := fun _ => fun
  | [d1, d2] => { results := [.lit (.bool false)], args := [d1, d2] }
  | _ => none }
def WaitAllWrongFalsely : Prop := waitAllRow.holds Try.pinned (OpenSpec.ofChange waitAllWrong)

/-- 'switchboardlaw23.WaitTells': WHATEVER THE INPUT: true; the input reads as it did. -/
def waitTellsSpec : ChangeSpec := { name := "waitTells", fn := fun _ => fun
  | [d1, d2, d3, d4, d5] => { results := [.lit (.bool true)], args := [d1, d2, d3, d4, d5] }
  | _ => none }
def waitTellsRow : OpenClaim := { program := "ytkpbohgadldpjaa", sum := "94a819113246ba53d5eae029d7198bcd67698aa6d136f89603f966f445963da7", func := "switchboard/switchboardlaw23.WaitTells", spec := "waitTells", unfollowed := true, recurses := true, apart := false }
def WaitTellsSaid : Prop := waitTellsRow.holds Try.pinned (OpenSpec.ofChange waitTellsSpec)

/-- ITS FALSE NEIGHBOUR: 'it returns false'. Refute it at one input. -/
def waitTellsWrong : ChangeSpec := { name := "waitTells", fn := fun _ => fun
  | [d1, d2, d3, d4, d5] => { results := [.lit (.bool false)], args := [d1, d2, d3, d4, d5] }
  | _ => none }
def WaitTellsWrongFalsely : Prop := waitTellsRow.holds Try.pinned (OpenSpec.ofChange waitTellsWrong)

/- THE SECOND FORM. 'bulk': how many values and letters a reading holds, each counted each time it is reached (what is shared counts as often as it is met; a slice's spare places count too). A statement '..UptoSaid' is the law's where the arguments, and the package variables that the reading takes, are together of bulk at most 1048576: NARROWER than '..Said'. Prove '..Said' where nothing that the law and all that it calls make is longer than what came in: it says more and counts as full. Else prove '..UptoSaid'. A law counts once. -/
mutual
def uptoBulk {H : Type} : DataW H → Nat
  | .lit (.string bytes) => bytes.length + 1
  | .lit _ => 1
  | .nil => 1
  | .ptr d => uptoBulk d + 1
  | .slice elems spare => uptoBulkAll elems + uptoBulkAll spare + 1
  | .agg parts => uptoBulkAll parts + 1
  | .iface _ d => uptoBulk d + 1
  | .map entries => uptoBulkEntries entries + 1
  | .held _ => 1
def uptoBulkAll {H : Type} : List (DataW H) → Nat
  | [] => 0
  | d :: r => uptoBulk d + uptoBulkAll r
def uptoBulkEntries {H : Type} : List (Lit × DataW H) → Nat
  | [] => 0
  | x :: r => uptoBulkEntry x + uptoBulkEntries r
def uptoBulkEntry {H : Type} : Lit × DataW H → Nat
  | (.string bytes, d) => bytes.length + uptoBulk d + 1
  | (_, d) => uptoBulk d + 1
 end
def uptoSmall : (H : Type) → List (DataW H) → Bool := fun _ ds => decide (uptoBulkAll ds ≤ 1048576)
def OpenSpec.upto (s : _root_.Go.ChangeSpec) : _root_.Go.OpenSpec := { _root_.Go.OpenSpec.ofChange s with cond := some uptoSmall }

/-- 'switchboardlaw23.WaitMany', WHERE WHAT IT READS IS OF BULK AT MOST 1048576: true; the input reads as it did. -/
def waitManyUptoRow : OpenClaim := { program := "ytkpbohgadldpjaa", sum := "94a819113246ba53d5eae029d7198bcd67698aa6d136f89603f966f445963da7", func := "switchboard/switchboardlaw23.WaitMany", spec := "waitMany", unfollowed := true, recurses := true, apart := false, narrowed := true }
def WaitManyUptoSaid : Prop := waitManyUptoRow.holds Try.pinned (OpenSpec.upto waitManySpec)

/-- 'switchboardlaw23.WaitOrder', WHERE WHAT IT READS IS OF BULK AT MOST 1048576: true; the input reads as it did. -/
def waitOrderUptoRow : OpenClaim := { program := "ytkpbohgadldpjaa", sum := "94a819113246ba53d5eae029d7198bcd67698aa6d136f89603f966f445963da7", func := "switchboard/switchboardlaw23.WaitOrder", spec := "waitOrder", unfollowed := true, recurses := true, apart := false, narrowed := true }
def WaitOrderUptoSaid : Prop := waitOrderUptoRow.holds Try.pinned (OpenSpec.upto waitOrderSpec)

/-- 'switchboardlaw23.WaitAll', WHERE WHAT IT READS IS OF BULK AT MOST 1048576: true; the input reads as it did. -/
def waitAllUptoRow : OpenClaim := { program := "ytkpbohgadldpjaa", sum := "94a819113246ba53d5eae029d7198bcd67698aa6d136f89603f966f445963da7", func := "switchboard/switchboardlaw23.WaitAll", spec := "waitAll", unfollowed := true, recurses := true, apart := false, narrowed := true }
def WaitAllUptoSaid : Prop := waitAllUptoRow.holds Try.pinned (OpenSpec.upto waitAllSpec)

/-- 'switchboardlaw23.WaitTells', WHERE WHAT IT READS IS OF BULK AT MOST 1048576: true; the input reads as it did. -/
def waitTellsUptoRow : OpenClaim := { program := "ytkpbohgadldpjaa", sum := "94a819113246ba53d5eae029d7198bcd67698aa6d136f89603f966f445963da7", func := "switchboard/switchboardlaw23.WaitTells", spec := "waitTells", unfollowed := true, recurses := true, apart := false, narrowed := true }
def WaitTellsUptoSaid : Prop := waitTellsUptoRow.holds Try.pinned (OpenSpec.upto waitTellsSpec)

end Rows
end Go.Proofs.Ytkpbohgadldpjaa
