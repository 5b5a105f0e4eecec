/-
  No cell of these rows narrows 'for every input' (looked for: loops, veiled, ifaces, maps, wideKeys, modest, calm, conditions, laid).
  DERIVED. THE GIVEN ROWS OF THIS SEAT. 3 by the template 'for every input the law returns true; each argument reads behind the call as it read before'; 0 by the template 'total and deterministic' (their statements: YtknhiplhffibjaaTotals.lean).
  GIVEN WITH THE SEED: the statements are not yours to turn. If you find one false, say at which input.
  Laid BY PROGRAM, IN A SANDBOX (cutbox-rows.mjs): the forced cells as the released guide's own fill.sh prints them over the translation d4f05d15b25ddb33… (all of the seat's roots in one cut). By AI agents, Wed Nov 11 2026. No macro, syntax, notation, axiom, sorry.
-/
import Derived.Test.YtknhiplhffibjaaChecked
import GoSem.Claim
import GoSem.ClaimJoined
import GoSem.ClaimMapViews
import Derived.JoinedTies
import Derived.KernelRfl
namespace Go.Proofs.Ytknhiplhffibjaa
/- THE CELL 'sum', in the pinned program and in every row, IS THE sha256 OF THE DUMP (.gsa) THAT YtknhiplhffibjaaProg.lean LOADS. Nothing in Lean hashes anything: it is a label: what it is worth is what the hold of that sum in a sandbox is worth. -/
noncomputable def Try.pinned : Pinned := { name := "ytknhiplhffibjaa", sum := "d4f05d15b25ddb33a3f900ba348496e8170dd07c51e37af0e7c0d22c605349f9", checked := Try.checked }
namespace Rows
def none {H : Type} : Left H := { results := [], args := [] }

/-- 'pantilelaw22.CensusBack': WHATEVER THE INPUT: true; the input reads as it did. -/
def censusBackSpec : ChangeSpec := { name := "censusBack", fn := fun _ => fun
  | [d1, d2, d3] => { results := [.lit (.bool true)], args := [d1, d2, d3] }
  | _ => none }
def censusBackRow : OpenClaim := { program := "ytknhiplhffibjaa", sum := "d4f05d15b25ddb33a3f900ba348496e8170dd07c51e37af0e7c0d22c605349f9", func := "pantile/pantilelaw22.CensusBack", spec := "censusBack", unfollowed := true, recurses := true, apart := false }
def CensusBackSaid : Prop := censusBackRow.holds Try.pinned (OpenSpec.ofChange censusBackSpec)

/-- ITS FALSE NEIGHBOUR: 'it returns false'. Refute it at one input. -/
def censusBackWrong : ChangeSpec := { name := "censusBack", fn := fun _ => fun
  | [d1, d2, d3] => { results := [.lit (.bool false)], args := [d1, d2, d3] }
  | _ => none }
def CensusBackWrongFalsely : Prop := censusBackRow.holds Try.pinned (OpenSpec.ofChange censusBackWrong)

/-- 'pantilelaw22.CensusHeads': WHATEVER THE INPUT: true; the input reads as it did. -/
def censusHeadsSpec : ChangeSpec := { name := "censusHeads", fn := fun _ => fun
  | [d] => { results := [.lit (.bool true)], args := [d] }
  | _ => none }
def censusHeadsRow : OpenClaim := { program := "ytknhiplhffibjaa", sum := "d4f05d15b25ddb33a3f900ba348496e8170dd07c51e37af0e7c0d22c605349f9", func := "pantile/pantilelaw22.CensusHeads", spec := "censusHeads", unfollowed := true, recurses := true, apart := false }
def CensusHeadsSaid : Prop := censusHeadsRow.holds Try.pinned (OpenSpec.ofChange censusHeadsSpec)

/-- ITS FALSE NEIGHBOUR: 'it returns false'. Refute it at one input. -/
def censusHeadsWrong : ChangeSpec := { name := "censusHeads", fn := fun _ => fun
  | [d] => { results := [.lit (.bool false)], args := [d] }
  | _ => none }
def CensusHeadsWrongFalsely : Prop := censusHeadsRow.holds Try.pinned (OpenSpec.ofChange censusHeadsWrong)

/-- 'pantilelaw22.CensusSplits': WHATEVER THE INPUT: true; the input reads as it did. -/
def censusSplitsSpec : ChangeSpec := { name := "censusSplits", fn := fun _ => fun
  | [d1, d2, d3] => { results := [.lit (.bool true)], args := [d1, d2, d3] }
  | _ => none }
def censusSplitsRow : OpenClaim := { program := "ytknhiplhffibjaa", sum := "d4f05d15b25ddb33a3f900ba348496e8170dd07c51e37af0e7c0d22c605349f9", func := "pantile/pantilelaw22.CensusSplits", spec := "censusSplits", unfollowed := true, recurses := true, apart := false }
def CensusSplitsSaid : Prop := censusSplitsRow.holds Try.pinned (OpenSpec.ofChange censusSplitsSpec)

/-- ITS FALSE NEIGHBOUR: 'it returns false'. Refute it at one input. -/
def censusSplitsWrong : ChangeSpec := { name := "censusSplits", fn := fun _ => fun
  | [d1, d2, d3] => { results := [.lit (.bool false)], args := [d1, d2, d3] }
  | _ => none }
def CensusSplitsWrongFalsely : Prop := censusSplitsRow.holds Try.pinned (OpenSpec.ofChange censusSplitsWrong)

/- THE SECOND FORM. 'bulk': how many values and letters a reading holds, each counted each time it is reached (what is shared counts as often as it is met; a slice's spare places count too). A statement '..UptoSaid' is the law's where the arguments, and the package variables that the reading takes, are together of bulk at most 1048576: NARROWER than '..Said'. Prove '..Said' where nothing that the law and all that it calls make is longer than what came in: it says more and counts as full. Else prove '..UptoSaid'. A law counts once. -/
mutual
def uptoBulk {H : Type} : DataW H → Nat
  | .lit (.string bytes) => bytes.length + 1
  | .lit _ => 1
  | .nil => 1
  | .ptr d => uptoBulk d + 1
  | .slice elems spare => uptoBulkAll elems + uptoBulkAll spare + 1
  | .agg parts => uptoBulkAll parts + 1
  | .iface _ d => uptoBulk d + 1
  | .map entries => uptoBulkEntries entries + 1
  | .held _ => 1
def uptoBulkAll {H : Type} : List (DataW H) → Nat
  | [] => 0
  | d :: r => uptoBulk d + uptoBulkAll r
def uptoBulkEntries {H : Type} : List (Lit × DataW H) → Nat
  | [] => 0
  | x :: r => uptoBulkEntry x + uptoBulkEntries r
def uptoBulkEntry {H : Type} : Lit × DataW H → Nat
  | (.string bytes, d) => bytes.length + uptoBulk d + 1
  | (_, d) => uptoBulk d + 1
 end
def uptoSmall : (H : Type) → List (DataW H) → Bool := fun _ ds => decide (uptoBulkAll ds ≤ 1048576)
def OpenSpec.upto (s : _root_.Go.ChangeSpec) : _root_.Go.OpenSpec := { _root_.Go.OpenSpec.ofChange s with cond := some uptoSmall }

/-- 'pantilelaw22.CensusBack', WHERE WHAT IT READS IS OF BULK AT MOST 1048576: true; the input reads as it did. -/
def censusBackUptoRow : OpenClaim := { program := "ytknhiplhffibjaa", sum := "d4f05d15b25ddb33a3f900ba348496e8170dd07c51e37af0e7c0d22c605349f9", func := "pantile/pantilelaw22.CensusBack", spec := "censusBack", unfollowed := true, recurses := true, apart := false, narrowed := true }
def CensusBackUptoSaid : Prop := censusBackUptoRow.holds Try.pinned (OpenSpec.upto censusBackSpec)

/-- 'pantilelaw22.CensusHeads', WHERE WHAT IT READS IS OF BULK AT MOST 1048576: true; the input reads as it did. -/
def censusHeadsUptoRow : OpenClaim := { program := "ytknhiplhffibjaa", sum := "d4f05d15b25ddb33a3f900ba348496e8170dd07c51e37af0e7c0d22c605349f9", func := "pantile/pantilelaw22.CensusHeads", spec := "censusHeads", unfollowed := true, recurses := true, apart := false, narrowed := true }
def CensusHeadsUptoSaid : Prop := censusHeadsUptoRow.holds Try.pinned (OpenSpec.upto censusHeadsSpec)

/-- 'pantilelaw22.CensusSplits', WHERE WHAT IT READS IS OF BULK AT MOST 1048576: true; the input reads as it did. -/
def censusSplitsUptoRow : OpenClaim := { program := "ytknhiplhffibjaa", sum := "d4f05d15b25ddb33a3f900ba348496e8170dd07c51e37af0e7c0d22c605349f9", func := "pantile/pantilelaw22.CensusSplits", spec := "censusSplits", unfollowed := true, recurses := true, apart := false, narrowed := true }
def CensusSplitsUptoSaid : Prop := censusSplitsUptoRow.holds Try.pinned (OpenSpec.upto censusSplitsSpec)

end Rows
end Go.Proofs.Ytknhiplhffibjaa
