/-
  No cell of these rows narrows 'for every input' (looked for: loops, veiled, ifaces, maps, wideKeys, modest, calm, conditions, laid).
  DERIVED. THE GIVEN ROWS OF THIS SEAT. 3 by the template 'for every input the law returns true; each argument reads behind the call as it read before'; 0 by the template 'total and deterministic' (their statements: YtmggibmpljoacaaTotals.lean).
  GIVEN WITH THE SEED: the statements are not yours to turn. If you find one false, say at which input.
  Laid BY PROGRAM, IN A SANDBOX (cutbox-rows.mjs): the forced cells as the released guide's own fill.sh prints them over the translation bc8e5900e70d1cf4… (all of the seat's roots in one cut). By AI agents, Wed Nov 11 2026. No macro, syntax, notation, axiom, sorry.
-/
import Derived.Test.YtmggibmpljoacaaChecked
import GoSem.Claim
import GoSem.ClaimJoined
import GoSem.ClaimMapViews
import Derived.JoinedTies
import Derived.KernelRfl
namespace Go.Proofs.Ytmggibmpljoacaa
/- THE CELL 'sum', in the pinned program and in every row, IS THE sha256 OF THE DUMP (.gsa) THAT YtmggibmpljoacaaProg.lean LOADS. Nothing in Lean hashes anything: it is a label: what it is worth is what the hold of that sum in a sandbox is worth. -/
noncomputable def Try.pinned : Pinned := { name := "ytmggibmpljoacaa", sum := "bc8e5900e70d1cf4e96dff7fd85f804ad6e6606d8d1ea64d805cc521836b7758", checked := Try.checked }
namespace Rows
def none {H : Type} : Left H := { results := [], args := [] }

/-- 'switchboardlaw06.GateCounts': WHATEVER THE INPUT: true; the input reads as it did. -/
def gateCountsSpec : ChangeSpec := { name := "gateCounts", fn := fun _ => fun
  | [d1, d2] => { results := [.lit (.bool true)], args := [d1, d2] }
  | _ => none }
def gateCountsRow : OpenClaim := { program := "ytmggibmpljoacaa", sum := "bc8e5900e70d1cf4e96dff7fd85f804ad6e6606d8d1ea64d805cc521836b7758", func := "switchboard/switchboardlaw06.GateCounts", spec := "gateCounts", unfollowed := true, recurses := true, apart := false }
def GateCountsSaid : Prop := gateCountsRow.holds Try.pinned (OpenSpec.ofChange gateCountsSpec)

/-- ITS FALSE NEIGHBOUR: 'it returns false'. Refute it at one input. -/
def gateCountsWrong : ChangeSpec := { name := "gateCounts", fn := fun _ => fun
  | [d1, d2] => { results := [.lit (.bool false)], args := [d1, d2] }
  | _ => none }
def GateCountsWrongFalsely : Prop := gateCountsRow.holds Try.pinned (OpenSpec.ofChange gateCountsWrong)

/-- 'switchboardlaw06.GateCut': WHATEVER THE INPUT: true; the input reads as it did. -/
def gateCutSpec : ChangeSpec := { name := "gateCut", fn := fun _ => fun
  | [d] => { results := [.lit (.bool true)], args := [d] }
  | _ => none }
def gateCutRow : OpenClaim := { program := "ytmggibmpljoacaa", sum := "bc8e5900e70d1cf4e96dff7fd85f804ad6e6606d8d1ea64d805cc521836b7758", func := "switchboard/switchboardlaw06.GateCut", spec := "gateCut", unfollowed := true, recurses := true, apart := false }
def GateCutSaid : Prop := gateCutRow.holds Try.pinned (OpenSpec.ofChange gateCutSpec)

/-- ITS FALSE NEIGHBOUR: 'it returns false'. Refute it at one input. -/
def gateCutWrong : ChangeSpec := { name := "gateCut", fn := fun _ => fun
  | [d] => { results := [.lit (.bool false)], args := [d] }
  | _ => none }
def GateCutWrongFalsely : Prop := gateCutRow.holds Try.pinned (OpenSpec.ofChange gateCutWrong)

/-- 'switchboardlaw06.GateOwn': WHATEVER THE INPUT: true; the input reads as it did. -/
def gateOwnSpec : ChangeSpec := { name := "gateOwn", fn := fun _ => fun
  | [d] => { results := [.lit (.bool true)], args := [d] }
  | _ => none }
def gateOwnRow : OpenClaim := { program := "ytmggibmpljoacaa", sum := "bc8e5900e70d1cf4e96dff7fd85f804ad6e6606d8d1ea64d805cc521836b7758", func := "switchboard/switchboardlaw06.GateOwn", spec := "gateOwn", unfollowed := true, recurses := true, apart := false }
def GateOwnSaid : Prop := gateOwnRow.holds Try.pinned (OpenSpec.ofChange gateOwnSpec)

/-- ITS FALSE NEIGHBOUR: 'it returns false'. Refute it at one input. -/
def gateOwnWrong : ChangeSpec := { name := "gateOwn", fn := fun _ => fun
  | [d] => { results := [.lit (.bool false)], args := [d] }
  | _ => none }
def GateOwnWrongFalsely : Prop := gateOwnRow.holds Try.pinned (OpenSpec.ofChange gateOwnWrong)

/- THE SECOND FORM. 'bulk': how many values and letters a reading holds, each counted each time it is reached (what is shared counts as often as it is met; a slice's spare places count too). A statement '..UptoSaid' is the law's where the arguments, and the package variables that the reading takes, are together of bulk at most 1048576: NARROWER than '..Said'. Prove '..Said' where nothing that the law and all that it calls make is longer than what came in: it says more and counts as full. Else prove '..UptoSaid'. A law counts once. -/
mutual
def uptoBulk {H : Type} : DataW H → Nat
  | .lit (.string bytes) => bytes.length + 1
  | .lit _ => 1
  | .nil => 1
  | .ptr d => uptoBulk d + 1
  | .slice elems spare => uptoBulkAll elems + uptoBulkAll spare + 1
  | .agg parts => uptoBulkAll parts + 1
  | .iface _ d => uptoBulk d + 1
  | .map entries => uptoBulkEntries entries + 1
  | .held _ => 1
def uptoBulkAll {H : Type} : List (DataW H) → Nat
  | [] => 0
  | d :: r => uptoBulk d + uptoBulkAll r
def uptoBulkEntries {H : Type} : List (Lit × DataW H) → Nat
  | [] => 0
  | x :: r => uptoBulkEntry x + uptoBulkEntries r
def uptoBulkEntry {H : Type} : Lit × DataW H → Nat
  | (.string bytes, d) => bytes.length + uptoBulk d + 1
  | (_, d) => uptoBulk d + 1
 end
def uptoSmall : (H : Type) → List (DataW H) → Bool := fun _ ds => decide (uptoBulkAll ds ≤ 1048576)
def OpenSpec.upto (s : _root_.Go.ChangeSpec) : _root_.Go.OpenSpec := { _root_.Go.OpenSpec.ofChange s with cond := some uptoSmall }

/-- 'switchboardlaw06.GateCounts', WHERE WHAT IT READS IS OF BULK AT MOST 1048576: true; the input reads as it did. -/
def gateCountsUptoRow : OpenClaim := { program := "ytmggibmpljoacaa", sum := "bc8e5900e70d1cf4e96dff7fd85f804ad6e6606d8d1ea64d805cc521836b7758", func := "switchboard/switchboardlaw06.GateCounts", spec := "gateCounts", unfollowed := true, recurses := true, apart := false, narrowed := true }
def GateCountsUptoSaid : Prop := gateCountsUptoRow.holds Try.pinned (OpenSpec.upto gateCountsSpec)

/-- 'switchboardlaw06.GateCut', WHERE WHAT IT READS IS OF BULK AT MOST 1048576: true; the input reads as it did. -/
def gateCutUptoRow : OpenClaim := { program := "ytmggibmpljoacaa", sum := "bc8e5900e70d1cf4e96dff7fd85f804ad6e6606d8d1ea64d805cc521836b7758", func := "switchboard/switchboardlaw06.GateCut", spec := "gateCut", unfollowed := true, recurses := true, apart := false, narrowed := true }
def GateCutUptoSaid : Prop := gateCutUptoRow.holds Try.pinned (OpenSpec.upto gateCutSpec)

/-- 'switchboardlaw06.GateOwn', WHERE WHAT IT READS IS OF BULK AT MOST 1048576: true; the input reads as it did. -/
def gateOwnUptoRow : OpenClaim := { program := "ytmggibmpljoacaa", sum := "bc8e5900e70d1cf4e96dff7fd85f804ad6e6606d8d1ea64d805cc521836b7758", func := "switchboard/switchboardlaw06.GateOwn", spec := "gateOwn", unfollowed := true, recurses := true, apart := false, narrowed := true }
def GateOwnUptoSaid : Prop := gateOwnUptoRow.holds Try.pinned (OpenSpec.upto gateOwnSpec)

end Rows
end Go.Proofs.Ytmggibmpljoacaa
