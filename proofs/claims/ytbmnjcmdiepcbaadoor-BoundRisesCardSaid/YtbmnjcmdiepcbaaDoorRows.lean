/-
  NARROWER THAN 'FOR EVERY INPUT', by the rows' own cells (each row's printed sentence says how): BoundTells: laid · BoundRises: laid.
  DERIVED. THE GIVEN ROWS OF THIS SEAT. 2 by the template 'for every input the law returns true; each argument reads behind the call as it read before'; 0 by the template 'total and deterministic' (their statements: YtbmnjcmdiepcbaaDoorTotals.lean).
  GIVEN WITH THE SEED: the statements are not yours to turn. If you find one false, say at which input.
  Laid BY PROGRAM, IN A SANDBOX (cutbox-rows.mjs): the forced cells as the released guide's own fill.sh prints them over the translation c0272e20c183553f… (all of the seat's roots in one cut). By AI agents, Wed Nov 11 2026. No macro, syntax, notation, axiom, sorry.
-/
import Derived.Test.YtbmnjcmdiepcbaaDoorChecked
import GoSem.Claim
import GoSem.ClaimJoined
import GoSem.ClaimMapViews
import Derived.JoinedTies
import Derived.KernelRfl
namespace Go.Proofs.YtbmnjcmdiepcbaaDoor
/- THE CELL 'sum', in the pinned program and in every row, IS THE sha256 OF THE DUMP (.gsa) THAT YtbmnjcmdiepcbaaDoorProg.lean LOADS. Nothing in Lean hashes anything: it is a label: what it is worth is what the hold of that sum in a sandbox is worth. -/
noncomputable def Tryd.pinned : Pinned := { name := "ytbmnjcmdiepcbaadoor", sum := "c0272e20c183553f12afda088323106b507194a6d803186078e2f79a58ad2d60", checked := Tryd.checked }
namespace Rows
def none {H : Type} : Left H := { results := [], args := [] }

/- WHAT THE LISTED PACKAGE-LEVEL VARIABLES READ AS WHEN THE CALL BEGINS. Each datum BY PROGRAM (the guide's laid-datum.mjs) off the statement by which the dump's own 'gosem.cut.vars' lays the variable. In a bare row this is a premise. The card (YtbmnjcmdiepcbaaDoorCards.lean) ties it to the program's text. -/
def laid_pantile_bound_takes {H : Type} : DataW H := .agg [.lit (.int .u8 12), .lit (.int .u8 4), .lit (.int .u8 4), .lit (.int .u8 2), .lit (.int .u8 4), .lit (.int .u8 4), .lit (.int .u8 4), .lit (.int .u8 1), .lit (.int .u8 0), .lit (.int .u8 18), .lit (.int .u8 34), .lit (.int .u8 50), .lit (.int .u8 0), .lit (.int .u8 18), .lit (.int .u8 12), .lit (.int .u8 0), .lit (.int .u8 0), .lit (.int .u8 0)]

/-- 'pantilelaw24.BoundTells': WHATEVER THE INPUT: true; the input reads as it did. -/
def boundTellsSpec : ChangeSpec := { name := "boundTells", fn := fun _ => fun
  | [d1, d2, d3] => { results := [.lit (.bool true)], args := [d1, d2, d3] }
  | _ => none }
def boundTellsRow : OpenClaim := { program := "ytbmnjcmdiepcbaadoor", sum := "c0272e20c183553f12afda088323106b507194a6d803186078e2f79a58ad2d60", func := "pantile/pantilelaw24.BoundTells", spec := "boundTells", named := ["pantile/bound.takes"], apart := false, laid := [("pantile/bound.takes", laid_pantile_bound_takes)] }
def BoundTellsSaid : Prop := boundTellsRow.holds Tryd.pinned (OpenSpec.ofChange boundTellsSpec)

/-- ITS FALSE NEIGHBOUR: 'it returns false'. Refute it at one input. -/
def boundTellsWrong : ChangeSpec := { name := "boundTells", fn := fun _ => fun
  | [d1, d2, d3] => { results := [.lit (.bool false)], args := [d1, d2, d3] }
  | _ => none }
def BoundTellsWrongFalsely : Prop := boundTellsRow.holds Tryd.pinned (OpenSpec.ofChange boundTellsWrong)

/-- 'pantilelaw24.BoundRises': WHATEVER THE INPUT: true; the input reads as it did. -/
def boundRisesSpec : ChangeSpec := { name := "boundRises", fn := fun _ => fun
  | [d1, d2, d3] => { results := [.lit (.bool true)], args := [d1, d2, d3] }
  | _ => none }
def boundRisesRow : OpenClaim := { program := "ytbmnjcmdiepcbaadoor", sum := "c0272e20c183553f12afda088323106b507194a6d803186078e2f79a58ad2d60", func := "pantile/pantilelaw24.BoundRises", spec := "boundRises", named := ["pantile/bound.takes"], apart := false, laid := [("pantile/bound.takes", laid_pantile_bound_takes)] }
def BoundRisesSaid : Prop := boundRisesRow.holds Tryd.pinned (OpenSpec.ofChange boundRisesSpec)

/-- ITS FALSE NEIGHBOUR: 'it returns false'. Refute it at one input. -/
def boundRisesWrong : ChangeSpec := { name := "boundRises", fn := fun _ => fun
  | [d1, d2, d3] => { results := [.lit (.bool false)], args := [d1, d2, d3] }
  | _ => none }
def BoundRisesWrongFalsely : Prop := boundRisesRow.holds Tryd.pinned (OpenSpec.ofChange boundRisesWrong)

/- THE SECOND FORM. 'bulk': how many values and letters a reading holds, each counted each time it is reached (what is shared counts as often as it is met; a slice's spare places count too). A statement '..UptoSaid' is the law's where the arguments, and the package variables that the reading takes, are together of bulk at most 1048576: NARROWER than '..Said'. Prove '..Said' where nothing that the law and all that it calls make is longer than what came in: it says more and counts as full. Else prove '..UptoSaid'. A law counts once. -/
mutual
def uptoBulk {H : Type} : DataW H → Nat
  | .lit (.string bytes) => bytes.length + 1
  | .lit _ => 1
  | .nil => 1
  | .ptr d => uptoBulk d + 1
  | .slice elems spare => uptoBulkAll elems + uptoBulkAll spare + 1
  | .agg parts => uptoBulkAll parts + 1
  | .iface _ d => uptoBulk d + 1
  | .map entries => uptoBulkEntries entries + 1
  | .held _ => 1
def uptoBulkAll {H : Type} : List (DataW H) → Nat
  | [] => 0
  | d :: r => uptoBulk d + uptoBulkAll r
def uptoBulkEntries {H : Type} : List (Lit × DataW H) → Nat
  | [] => 0
  | x :: r => uptoBulkEntry x + uptoBulkEntries r
def uptoBulkEntry {H : Type} : Lit × DataW H → Nat
  | (.string bytes, d) => bytes.length + uptoBulk d + 1
  | (_, d) => uptoBulk d + 1
 end
def uptoSmall : (H : Type) → List (DataW H) → Bool := fun _ ds => decide (uptoBulkAll ds ≤ 1048576)
def OpenSpec.upto (s : _root_.Go.ChangeSpec) : _root_.Go.OpenSpec := { _root_.Go.OpenSpec.ofChange s with cond := some uptoSmall }

/-- 'pantilelaw24.BoundTells', WHERE WHAT IT READS IS OF BULK AT MOST 1048576: true; the input reads as it did. -/
def boundTellsUptoRow : OpenClaim := { program := "ytbmnjcmdiepcbaadoor", sum := "c0272e20c183553f12afda088323106b507194a6d803186078e2f79a58ad2d60", func := "pantile/pantilelaw24.BoundTells", spec := "boundTells", named := ["pantile/bound.takes"], apart := false, laid := [("pantile/bound.takes", laid_pantile_bound_takes)], narrowed := true }
def BoundTellsUptoSaid : Prop := boundTellsUptoRow.holds Tryd.pinned (OpenSpec.upto boundTellsSpec)

/-- 'pantilelaw24.BoundRises', WHERE WHAT IT READS IS OF BULK AT MOST 1048576: true; the input reads as it did. -/
def boundRisesUptoRow : OpenClaim := { program := "ytbmnjcmdiepcbaadoor", sum := "c0272e20c183553f12afda088323106b507194a6d803186078e2f79a58ad2d60", func := "pantile/pantilelaw24.BoundRises", spec := "boundRises", named := ["pantile/bound.takes"], apart := false, laid := [("pantile/bound.takes", laid_pantile_bound_takes)], narrowed := true }
def BoundRisesUptoSaid : Prop := boundRisesUptoRow.holds Tryd.pinned (OpenSpec.upto boundRisesSpec)

end Rows
end Go.Proofs.YtbmnjcmdiepcbaaDoor
