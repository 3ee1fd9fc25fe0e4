/-
  No cell of these rows narrows 'for every input' (looked for: loops, veiled, ifaces, maps, wideKeys, modest, calm, conditions, laid).
  DERIVED. THE GIVEN ROWS OF THIS SEAT. 3 by the template 'for every input the law returns true; each argument reads behind the call as it read before'; 0 by the template 'total and deterministic' (their statements: YtmgdbbbdhkfdmaaGreatTotals.lean).
  GIVEN WITH THE SEED: the statements are not yours to turn. If you find one false, say at which input.
  Laid BY PROGRAM, IN A SANDBOX (cutbox-rows.mjs): the forced cells as the released guide's own fill.sh prints them over the translation 7dd29b1ed087d863… (all of the seat's roots in one cut). By AI agents, Wed Nov 11 2026. No macro, syntax, notation, axiom, sorry.
-/
import Derived.Test.YtmgdbbbdhkfdmaaGreatChecked
import GoSem.Claim
import GoSem.ClaimJoined
import GoSem.ClaimMapViews
import Derived.JoinedTies
import Derived.KernelRfl
namespace Go.Proofs.YtmgdbbbdhkfdmaaGreat
/- THE CELL 'sum', in the pinned program and in every row, IS THE sha256 OF THE DUMP (.gsa) THAT YtmgdbbbdhkfdmaaGreatProg.lean LOADS. Nothing in Lean hashes anything: it is a label: what it is worth is what the hold of that sum in a sandbox is worth. -/
noncomputable def Tryz.pinned : Pinned := { name := "ytmgdbbbdhkfdmaagreat", sum := "7dd29b1ed087d863ca858689ffeb20b26f81a1f9a35ff27fd157fb178a7d4333", checked := Tryz.checked }
namespace Rows
def none {H : Type} : Left H := { results := [], args := [] }

/-- 'pursuivantlaw16.StreamCopies': WHATEVER THE INPUT: true; the input reads as it did. -/
def streamCopiesSpec : ChangeSpec := { name := "streamCopies", fn := fun _ => fun
  | [d1, d2, d3] => { results := [.lit (.bool true)], args := [d1, d2, d3] }
  | _ => none }
def streamCopiesRow : OpenClaim := { program := "ytmgdbbbdhkfdmaagreat", sum := "7dd29b1ed087d863ca858689ffeb20b26f81a1f9a35ff27fd157fb178a7d4333", func := "pursuivant/pursuivantlaw16.StreamCopies", spec := "streamCopies", unfollowed := true, recurses := true, apart := false }
def StreamCopiesSaid : Prop := streamCopiesRow.holds Tryz.pinned (OpenSpec.ofChange streamCopiesSpec)

/-- ITS FALSE NEIGHBOUR: 'it returns false'. Refute it at one input. -/
def streamCopiesWrong : ChangeSpec := { name := "streamCopies", fn := fun _ => fun
  | [d1, d2, d3] => { results := [.lit (.bool false)], args := [d1, d2, d3] }
  | _ => none }
def StreamCopiesWrongFalsely : Prop := streamCopiesRow.holds Tryz.pinned (OpenSpec.ofChange streamCopiesWrong)

/-- 'pursuivantlaw16.StreamBound': WHATEVER THE INPUT: true; the input reads as it did. -/
def streamBoundSpec : ChangeSpec := { name := "streamBound", fn := fun _ => fun
  | [d1, d2] => { results := [.lit (.bool true)], args := [d1, d2] }
  | _ => none }
def streamBoundRow : OpenClaim := { program := "ytmgdbbbdhkfdmaagreat", sum := "7dd29b1ed087d863ca858689ffeb20b26f81a1f9a35ff27fd157fb178a7d4333", func := "pursuivant/pursuivantlaw16.StreamBound", spec := "streamBound", unfollowed := true, recurses := true, apart := false }
def StreamBoundSaid : Prop := streamBoundRow.holds Tryz.pinned (OpenSpec.ofChange streamBoundSpec)

/-- ITS FALSE NEIGHBOUR: 'it returns false'. Refute it at one input. -/
def streamBoundWrong : ChangeSpec := { name := "streamBound", fn := fun _ => fun
  | [d1, d2] => { results := [.lit (.bool false)], args := [d1, d2] }
  | _ => none }
def StreamBoundWrongFalsely : Prop := streamBoundRow.holds Tryz.pinned (OpenSpec.ofChange streamBoundWrong)

/-- 'pursuivantlaw16.StreamShut': WHATEVER THE INPUT: true; the input reads as it did. -/
def streamShutSpec : ChangeSpec := { name := "streamShut", fn := fun _ => fun
  | [d1, d2, d3] => { results := [.lit (.bool true)], args := [d1, d2, d3] }
  | _ => none }
def streamShutRow : OpenClaim := { program := "ytmgdbbbdhkfdmaagreat", sum := "7dd29b1ed087d863ca858689ffeb20b26f81a1f9a35ff27fd157fb178a7d4333", func := "pursuivant/pursuivantlaw16.StreamShut", spec := "streamShut", unfollowed := true, recurses := true, apart := false }
def StreamShutSaid : Prop := streamShutRow.holds Tryz.pinned (OpenSpec.ofChange streamShutSpec)

/-- ITS FALSE NEIGHBOUR: 'it returns false'. Refute it at one input. -/
def streamShutWrong : ChangeSpec := { name := "streamShut", fn := fun _ => fun
  | [d1, d2, d3] => { results := [.lit (.bool false)], args := [d1, d2, d3] }
  | _ => none }
def StreamShutWrongFalsely : Prop := streamShutRow.holds Tryz.pinned (OpenSpec.ofChange streamShutWrong)

/- THE SECOND FORM. 'bulk': how many values and letters a reading holds, each counted each time it is reached (what is shared counts as often as it is met; a slice's spare places count too). A statement '..UptoSaid' is the law's where the arguments, and the package variables that the reading takes, are together of bulk at most 1048576: NARROWER than '..Said'. Prove '..Said' where nothing that the law and all that it calls make is longer than what came in: it says more and counts as full. Else prove '..UptoSaid'. A law counts once. -/
mutual
def uptoBulk {H : Type} : DataW H → Nat
  | .lit (.string bytes) => bytes.length + 1
  | .lit _ => 1
  | .nil => 1
  | .ptr d => uptoBulk d + 1
  | .slice elems spare => uptoBulkAll elems + uptoBulkAll spare + 1
  | .agg parts => uptoBulkAll parts + 1
  | .iface _ d => uptoBulk d + 1
  | .map entries => uptoBulkEntries entries + 1
  | .held _ => 1
def uptoBulkAll {H : Type} : List (DataW H) → Nat
  | [] => 0
  | d :: r => uptoBulk d + uptoBulkAll r
def uptoBulkEntries {H : Type} : List (Lit × DataW H) → Nat
  | [] => 0
  | x :: r => uptoBulkEntry x + uptoBulkEntries r
def uptoBulkEntry {H : Type} : Lit × DataW H → Nat
  | (.string bytes, d) => bytes.length + uptoBulk d + 1
  | (_, d) => uptoBulk d + 1
 end
def uptoSmall : (H : Type) → List (DataW H) → Bool := fun _ ds => decide (uptoBulkAll ds ≤ 1048576)
def OpenSpec.upto (s : _root_.Go.ChangeSpec) : _root_.Go.OpenSpec := { _root_.Go.OpenSpec.ofChange s with cond := some uptoSmall }

/-- 'pursuivantlaw16.StreamCopies', WHERE WHAT IT READS IS OF BULK AT MOST 1048576: true; the input reads as it did. -/
def streamCopiesUptoRow : OpenClaim := { program := "ytmgdbbbdhkfdmaagreat", sum := "7dd29b1ed087d863ca858689ffeb20b26f81a1f9a35ff27fd157fb178a7d4333", func := "pursuivant/pursuivantlaw16.StreamCopies", spec := "streamCopies", unfollowed := true, recurses := true, apart := false, narrowed := true }
def StreamCopiesUptoSaid : Prop := streamCopiesUptoRow.holds Tryz.pinned (OpenSpec.upto streamCopiesSpec)

/-- 'pursuivantlaw16.StreamBound', WHERE WHAT IT READS IS OF BULK AT MOST 1048576: true; the input reads as it did. -/
def streamBoundUptoRow : OpenClaim := { program := "ytmgdbbbdhkfdmaagreat", sum := "7dd29b1ed087d863ca858689ffeb20b26f81a1f9a35ff27fd157fb178a7d4333", func := "pursuivant/pursuivantlaw16.StreamBound", spec := "streamBound", unfollowed := true, recurses := true, apart := false, narrowed := true }
def StreamBoundUptoSaid : Prop := streamBoundUptoRow.holds Tryz.pinned (OpenSpec.upto streamBoundSpec)

/-- 'pursuivantlaw16.StreamShut', WHERE WHAT IT READS IS OF BULK AT MOST 1048576: true; the input reads as it did. -/
def streamShutUptoRow : OpenClaim := { program := "ytmgdbbbdhkfdmaagreat", sum := "7dd29b1ed087d863ca858689ffeb20b26f81a1f9a35ff27fd157fb178a7d4333", func := "pursuivant/pursuivantlaw16.StreamShut", spec := "streamShut", unfollowed := true, recurses := true, apart := false, narrowed := true }
def StreamShutUptoSaid : Prop := streamShutUptoRow.holds Tryz.pinned (OpenSpec.upto streamShutSpec)

end Rows
end Go.Proofs.YtmgdbbbdhkfdmaaGreat
