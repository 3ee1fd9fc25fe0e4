/-
  No cell of these rows narrows 'for every input' (looked for: loops, veiled, ifaces, maps, wideKeys, modest, calm, conditions, laid).
  DERIVED. THE GIVEN ROWS OF THIS SEAT. 4 by the template 'for every input the law returns true; each argument reads behind the call as it read before'; 0 by the template 'total and deterministic' (their statements: YtmjcblghepplhaaTotals.lean).
  GIVEN WITH THE SEED: the statements are not yours to turn. If you find one false, say at which input.
  Laid BY PROGRAM, IN A SANDBOX (cutbox-rows.mjs): the forced cells as the released guide's own fill.sh prints them over the translation b09efa2b13690d0d… (all of the seat's roots in one cut). By AI agents, Wed Nov 11 2026. No macro, syntax, notation, axiom, sorry.
-/
import Derived.Test.YtmjcblghepplhaaChecked
import GoSem.Claim
import GoSem.ClaimJoined
import GoSem.ClaimMapViews
import Derived.JoinedTies
import Derived.KernelRfl
namespace Go.Proofs.Ytmjcblghepplhaa
/- THE CELL 'sum', in the pinned program and in every row, IS THE sha256 OF THE DUMP (.gsa) THAT YtmjcblghepplhaaProg.lean LOADS. Nothing in Lean hashes anything: it is a label: what it is worth is what the hold of that sum in a sandbox is worth. -/
noncomputable def Try.pinned : Pinned := { name := "ytmjcblghepplhaa", sum := "b09efa2b13690d0d24a609c2a1ca0dd2ff23361fe5210e68082446c270065194", checked := Try.checked }
namespace Rows
def none {H : Type} : Left H := { results := [], args := [] }

/-- 'pursuivantlaw11.SneNear': WHATEVER THE INPUT: true; the input reads as it did. -/
def sneNearSpec : ChangeSpec := { name := "sneNear", fn := fun _ => fun
  | [d1, d2] => { results := [.lit (.bool true)], args := [d1, d2] }
  | _ => none }
def sneNearRow : OpenClaim := { program := "ytmjcblghepplhaa", sum := "b09efa2b13690d0d24a609c2a1ca0dd2ff23361fe5210e68082446c270065194", func := "pursuivant/pursuivantlaw11.SneNear", spec := "sneNear", unfollowed := true, recurses := true, apart := false }
def SneNearSaid : Prop := sneNearRow.holds Try.pinned (OpenSpec.ofChange sneNearSpec)

/-- ITS FALSE NEIGHBOUR: 'it returns false'. Refute it at one input. -/
def sneNearWrong : ChangeSpec := { name := "sneNear", fn := fun _ => fun
  | [d1, d2] => { results := [.lit (.bool false)], args := [d1, d2] }
  | _ => none }
def SneNearWrongFalsely : Prop := sneNearRow.holds Try.pinned (OpenSpec.ofChange sneNearWrong)

/-- 'pursuivantlaw11.SneFits': WHATEVER THE INPUT: true; the input reads as it did. -/
def sneFitsSpec : ChangeSpec := { name := "sneFits", fn := fun _ => fun
  | [d1, d2, d3] => { results := [.lit (.bool true)], args := [d1, d2, d3] }
  | _ => none }
def sneFitsRow : OpenClaim := { program := "ytmjcblghepplhaa", sum := "b09efa2b13690d0d24a609c2a1ca0dd2ff23361fe5210e68082446c270065194", func := "pursuivant/pursuivantlaw11.SneFits", spec := "sneFits", unfollowed := true, recurses := true, apart := false }
def SneFitsSaid : Prop := sneFitsRow.holds Try.pinned (OpenSpec.ofChange sneFitsSpec)

/-- ITS FALSE NEIGHBOUR: 'it returns false'. Refute it at one input. -/
def sneFitsWrong : ChangeSpec := { name := "sneFits", fn := fun _ => fun
  | [d1, d2, d3] => { results := [.lit (.bool false)], args := [d1, d2, d3] }
  | _ => none }
def SneFitsWrongFalsely : Prop := sneFitsRow.holds Try.pinned (OpenSpec.ofChange sneFitsWrong)

/-- 'pursuivantlaw11.SneMarks': WHATEVER THE INPUT: true; the input reads as it did. -/
def sneMarksSpec : ChangeSpec := { name := "sneMarks", fn := fun _ => fun
  | [d1, d2, d3] => { results := [.lit (.bool true)], args := [d1, d2, d3] }
  | _ => none }
def sneMarksRow : OpenClaim := { program := "ytmjcblghepplhaa", sum := "b09efa2b13690d0d24a609c2a1ca0dd2ff23361fe5210e68082446c270065194", func := "pursuivant/pursuivantlaw11.SneMarks", spec := "sneMarks", unfollowed := true, recurses := true, apart := false }
def SneMarksSaid : Prop := sneMarksRow.holds Try.pinned (OpenSpec.ofChange sneMarksSpec)

/-- ITS FALSE NEIGHBOUR: 'it returns false'. Refute it at one input. -/
def sneMarksWrong : ChangeSpec := { name := "sneMarks", fn := fun _ => fun
  | [d1, d2, d3] => { results := [.lit (.bool false)], args := [d1, d2, d3] }
  | _ => none }
def SneMarksWrongFalsely : Prop := sneMarksRow.holds Try.pinned (OpenSpec.ofChange sneMarksWrong)

/-- 'pursuivantlaw11.SneBounds': WHATEVER THE INPUT: true; the input reads as it did. -/
def sneBoundsSpec : ChangeSpec := { name := "sneBounds", fn := fun _ => fun
  | [d1, d2] => { results := [.lit (.bool true)], args := [d1, d2] }
  | _ => none }
def sneBoundsRow : OpenClaim := { program := "ytmjcblghepplhaa", sum := "b09efa2b13690d0d24a609c2a1ca0dd2ff23361fe5210e68082446c270065194", func := "pursuivant/pursuivantlaw11.SneBounds", spec := "sneBounds", unfollowed := true, recurses := true, apart := false }
def SneBoundsSaid : Prop := sneBoundsRow.holds Try.pinned (OpenSpec.ofChange sneBoundsSpec)

/-- ITS FALSE NEIGHBOUR: 'it returns false'. Refute it at one input. -/
def sneBoundsWrong : ChangeSpec := { name := "sneBounds", fn := fun _ => fun
  | [d1, d2] => { results := [.lit (.bool false)], args := [d1, d2] }
  | _ => none }
def SneBoundsWrongFalsely : Prop := sneBoundsRow.holds Try.pinned (OpenSpec.ofChange sneBoundsWrong)

/- THE SECOND FORM. 'bulk': how many values and letters a reading holds, each counted each time it is reached (what is shared counts as often as it is met; a slice's spare places count too). A statement '..UptoSaid' is the law's where the arguments, and the package variables that the reading takes, are together of bulk at most 1048576: NARROWER than '..Said'. Prove '..Said' where nothing that the law and all that it calls make is longer than what came in: it says more and counts as full. Else prove '..UptoSaid'. A law counts once. -/
mutual
def uptoBulk {H : Type} : DataW H → Nat
  | .lit (.string bytes) => bytes.length + 1
  | .lit _ => 1
  | .nil => 1
  | .ptr d => uptoBulk d + 1
  | .slice elems spare => uptoBulkAll elems + uptoBulkAll spare + 1
  | .agg parts => uptoBulkAll parts + 1
  | .iface _ d => uptoBulk d + 1
  | .map entries => uptoBulkEntries entries + 1
  | .held _ => 1
def uptoBulkAll {H : Type} : List (DataW H) → Nat
  | [] => 0
  | d :: r => uptoBulk d + uptoBulkAll r
def uptoBulkEntries {H : Type} : List (Lit × DataW H) → Nat
  | [] => 0
  | x :: r => uptoBulkEntry x + uptoBulkEntries r
def uptoBulkEntry {H : Type} : Lit × DataW H → Nat
  | (.string bytes, d) => bytes.length + uptoBulk d + 1
  | (_, d) => uptoBulk d + 1
 end
def uptoSmall : (H : Type) → List (DataW H) → Bool := fun _ ds => decide (uptoBulkAll ds ≤ 1048576)
def OpenSpec.upto (s : _root_.Go.ChangeSpec) : _root_.Go.OpenSpec := { _root_.Go.OpenSpec.ofChange s with cond := some uptoSmall }

/-- 'pursuivantlaw11.SneNear', WHERE WHAT IT READS IS OF BULK AT MOST 1048576: true; the input reads as it did. -/
def sneNearUptoRow : OpenClaim := { program := "ytmjcblghepplhaa", sum := "b09efa2b13690d0d24a609c2a1ca0dd2ff23361fe5210e68082446c270065194", func := "pursuivant/pursuivantlaw11.SneNear", spec := "sneNear", unfollowed := true, recurses := true, apart := false, narrowed := true }
def SneNearUptoSaid : Prop := sneNearUptoRow.holds Try.pinned (OpenSpec.upto sneNearSpec)

/-- 'pursuivantlaw11.SneFits', WHERE WHAT IT READS IS OF BULK AT MOST 1048576: true; the input reads as it did. -/
def sneFitsUptoRow : OpenClaim := { program := "ytmjcblghepplhaa", sum := "b09efa2b13690d0d24a609c2a1ca0dd2ff23361fe5210e68082446c270065194", func := "pursuivant/pursuivantlaw11.SneFits", spec := "sneFits", unfollowed := true, recurses := true, apart := false, narrowed := true }
def SneFitsUptoSaid : Prop := sneFitsUptoRow.holds Try.pinned (OpenSpec.upto sneFitsSpec)

/-- 'pursuivantlaw11.SneMarks', WHERE WHAT IT READS IS OF BULK AT MOST 1048576: true; the input reads as it did. -/
def sneMarksUptoRow : OpenClaim := { program := "ytmjcblghepplhaa", sum := "b09efa2b13690d0d24a609c2a1ca0dd2ff23361fe5210e68082446c270065194", func := "pursuivant/pursuivantlaw11.SneMarks", spec := "sneMarks", unfollowed := true, recurses := true, apart := false, narrowed := true }
def SneMarksUptoSaid : Prop := sneMarksUptoRow.holds Try.pinned (OpenSpec.upto sneMarksSpec)

/-- 'pursuivantlaw11.SneBounds', WHERE WHAT IT READS IS OF BULK AT MOST 1048576: true; the input reads as it did. -/
def sneBoundsUptoRow : OpenClaim := { program := "ytmjcblghepplhaa", sum := "b09efa2b13690d0d24a609c2a1ca0dd2ff23361fe5210e68082446c270065194", func := "pursuivant/pursuivantlaw11.SneBounds", spec := "sneBounds", unfollowed := true, recurses := true, apart := false, narrowed := true }
def SneBoundsUptoSaid : Prop := sneBoundsUptoRow.holds Try.pinned (OpenSpec.upto sneBoundsSpec)

end Rows
end Go.Proofs.Ytmjcblghepplhaa
