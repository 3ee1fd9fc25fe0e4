/-
  No cell of these rows narrows 'for every input' (looked for: loops, veiled, ifaces, maps, wideKeys, modest, calm, conditions, laid).
  DERIVED. THE GIVEN ROWS OF THIS SEAT. 5 by the template 'for every input the law returns true; each argument reads behind the call as it read before'; 0 by the template 'total and deterministic' (their statements: YthhageigbonoaaaTotals.lean).
  GIVEN WITH THE SEED: the statements are not yours to turn. If you find one false, say at which input.
  Laid BY PROGRAM, IN A SANDBOX (cutbox-rows.mjs): the forced cells as the released guide's own fill.sh prints them over the translation 26fc492664299d27… (all of the seat's roots in one cut). By AI agents, Wed Nov 11 2026. No macro, syntax, notation, axiom, sorry.
-/
import Derived.Test.YthhageigbonoaaaChecked
import GoSem.Claim
import GoSem.ClaimJoined
import GoSem.ClaimMapViews
import Derived.JoinedTies
import Derived.KernelRfl
namespace Go.Proofs.Ythhageigbonoaaa
/- THE CELL 'sum', in the pinned program and in every row, IS THE sha256 OF THE DUMP (.gsa) THAT YthhageigbonoaaaProg.lean LOADS. Nothing in Lean hashes anything: it is a label: what it is worth is what the hold of that sum in a sandbox is worth. -/
noncomputable def Try.pinned : Pinned := { name := "ythhageigbonoaaa", sum := "26fc492664299d2770168a8cabadc0972ecc1d413fc314e08cc1f7c283a92953", checked := Try.checked }
namespace Rows
def none {H : Type} : Left H := { results := [], args := [] }

/-- 'pursuivantlaw13.WindowOffer': WHATEVER THE INPUT: true; the input reads as it did. -/
def windowOfferSpec : ChangeSpec := { name := "windowOffer", fn := fun _ => fun
  | [d1, d2] => { results := [.lit (.bool true)], args := [d1, d2] }
  | _ => none }
def windowOfferRow : OpenClaim := { program := "ythhageigbonoaaa", sum := "26fc492664299d2770168a8cabadc0972ecc1d413fc314e08cc1f7c283a92953", func := "pursuivant/pursuivantlaw13.WindowOffer", spec := "windowOffer", unfollowed := true, recurses := true, apart := false }
def WindowOfferSaid : Prop := windowOfferRow.holds Try.pinned (OpenSpec.ofChange windowOfferSpec)

/-- ITS FALSE NEIGHBOUR: 'it returns false'. Refute it at one input. -/
def windowOfferWrong : ChangeSpec := { name := "windowOffer", fn := fun _ => fun
  | [d1, d2] => { results := [.lit (.bool false)], args := [d1, d2] }
  | _ => none }
def WindowOfferWrongFalsely : Prop := windowOfferRow.holds Try.pinned (OpenSpec.ofChange windowOfferWrong)

/-- 'pursuivantlaw13.WindowPlay': WHATEVER THE INPUT: true; the input reads as it did. -/
def windowPlaySpec : ChangeSpec := { name := "windowPlay", fn := fun _ => fun
  | [d] => { results := [.lit (.bool true)], args := [d] }
  | _ => none }
def windowPlayRow : OpenClaim := { program := "ythhageigbonoaaa", sum := "26fc492664299d2770168a8cabadc0972ecc1d413fc314e08cc1f7c283a92953", func := "pursuivant/pursuivantlaw13.WindowPlay", spec := "windowPlay", unfollowed := true, recurses := true, apart := false }
def WindowPlaySaid : Prop := windowPlayRow.holds Try.pinned (OpenSpec.ofChange windowPlaySpec)

/-- ITS FALSE NEIGHBOUR: 'it returns false'. Refute it at one input. -/
def windowPlayWrong : ChangeSpec := { name := "windowPlay", fn := fun _ => fun
  | [d] => { results := [.lit (.bool false)], args := [d] }
  | _ => none }
def WindowPlayWrongFalsely : Prop := windowPlayRow.holds Try.pinned (OpenSpec.ofChange windowPlayWrong)

/-- 'pursuivantlaw13.WindowShut': WHATEVER THE INPUT: true; the input reads as it did. -/
def windowShutSpec : ChangeSpec := { name := "windowShut", fn := fun _ => fun
  | [d1, d2] => { results := [.lit (.bool true)], args := [d1, d2] }
  | _ => none }
def windowShutRow : OpenClaim := { program := "ythhageigbonoaaa", sum := "26fc492664299d2770168a8cabadc0972ecc1d413fc314e08cc1f7c283a92953", func := "pursuivant/pursuivantlaw13.WindowShut", spec := "windowShut", unfollowed := true, recurses := true, apart := false }
def WindowShutSaid : Prop := windowShutRow.holds Try.pinned (OpenSpec.ofChange windowShutSpec)

/-- ITS FALSE NEIGHBOUR: 'it returns false'. Refute it at one input. -/
def windowShutWrong : ChangeSpec := { name := "windowShut", fn := fun _ => fun
  | [d1, d2] => { results := [.lit (.bool false)], args := [d1, d2] }
  | _ => none }
def WindowShutWrongFalsely : Prop := windowShutRow.holds Try.pinned (OpenSpec.ofChange windowShutWrong)

/-- 'pursuivantlaw13.WindowCopies': WHATEVER THE INPUT: true; the input reads as it did. -/
def windowCopiesSpec : ChangeSpec := { name := "windowCopies", fn := fun _ => fun
  | [d1, d2] => { results := [.lit (.bool true)], args := [d1, d2] }
  | _ => none }
def windowCopiesRow : OpenClaim := { program := "ythhageigbonoaaa", sum := "26fc492664299d2770168a8cabadc0972ecc1d413fc314e08cc1f7c283a92953", func := "pursuivant/pursuivantlaw13.WindowCopies", spec := "windowCopies", unfollowed := true, recurses := true, apart := false }
def WindowCopiesSaid : Prop := windowCopiesRow.holds Try.pinned (OpenSpec.ofChange windowCopiesSpec)

/-- ITS FALSE NEIGHBOUR: 'it returns false'. Refute it at one input. -/
def windowCopiesWrong : ChangeSpec := { name := "windowCopies", fn := fun _ => fun
  | [d1, d2] => { results := [.lit (.bool false)], args := [d1, d2] }
  | _ => none }
def WindowCopiesWrongFalsely : Prop := windowCopiesRow.holds Try.pinned (OpenSpec.ofChange windowCopiesWrong)

/-- 'pursuivantlaw13.WindowNil': WHATEVER THE INPUT: true; the input reads as it did. -/
def windowNilSpec : ChangeSpec := { name := "windowNil", fn := fun _ => fun
  | [d1, d2] => { results := [.lit (.bool true)], args := [d1, d2] }
  | _ => none }
def windowNilRow : OpenClaim := { program := "ythhageigbonoaaa", sum := "26fc492664299d2770168a8cabadc0972ecc1d413fc314e08cc1f7c283a92953", func := "pursuivant/pursuivantlaw13.WindowNil", spec := "windowNil", unfollowed := true, recurses := true, apart := false }
def WindowNilSaid : Prop := windowNilRow.holds Try.pinned (OpenSpec.ofChange windowNilSpec)

/-- ITS FALSE NEIGHBOUR: 'it returns false'. Refute it at one input. -/
def windowNilWrong : ChangeSpec := { name := "windowNil", fn := fun _ => fun
  | [d1, d2] => { results := [.lit (.bool false)], args := [d1, d2] }
  | _ => none }
def WindowNilWrongFalsely : Prop := windowNilRow.holds Try.pinned (OpenSpec.ofChange windowNilWrong)

/- THE SECOND FORM. 'bulk': how many values and letters a reading holds, each counted each time it is reached (what is shared counts as often as it is met; a slice's spare places count too). A statement '..UptoSaid' is the law's where the arguments, and the package variables that the reading takes, are together of bulk at most 1048576: NARROWER than '..Said'. Prove '..Said' where nothing that the law and all that it calls make is longer than what came in: it says more and counts as full. Else prove '..UptoSaid'. A law counts once. -/
mutual
def uptoBulk {H : Type} : DataW H → Nat
  | .lit (.string bytes) => bytes.length + 1
  | .lit _ => 1
  | .nil => 1
  | .ptr d => uptoBulk d + 1
  | .slice elems spare => uptoBulkAll elems + uptoBulkAll spare + 1
  | .agg parts => uptoBulkAll parts + 1
  | .iface _ d => uptoBulk d + 1
  | .map entries => uptoBulkEntries entries + 1
  | .held _ => 1
def uptoBulkAll {H : Type} : List (DataW H) → Nat
  | [] => 0
  | d :: r => uptoBulk d + uptoBulkAll r
def uptoBulkEntries {H : Type} : List (Lit × DataW H) → Nat
  | [] => 0
  | x :: r => uptoBulkEntry x + uptoBulkEntries r
def uptoBulkEntry {H : Type} : Lit × DataW H → Nat
  | (.string bytes, d) => bytes.length + uptoBulk d + 1
  | (_, d) => uptoBulk d + 1
 end
def uptoSmall : (H : Type) → List (DataW H) → Bool := fun _ ds => decide (uptoBulkAll ds ≤ 1048576)
def OpenSpec.upto (s : _root_.Go.ChangeSpec) : _root_.Go.OpenSpec := { _root_.Go.OpenSpec.ofChange s with cond := some uptoSmall }

/-- 'pursuivantlaw13.WindowOffer', WHERE WHAT IT READS IS OF BULK AT MOST 1048576: true; the input reads as it did. -/
def windowOfferUptoRow : OpenClaim := { program := "ythhageigbonoaaa", sum := "26fc492664299d2770168a8cabadc0972ecc1d413fc314e08cc1f7c283a92953", func := "pursuivant/pursuivantlaw13.WindowOffer", spec := "windowOffer", unfollowed := true, recurses := true, apart := false, narrowed := true }
def WindowOfferUptoSaid : Prop := windowOfferUptoRow.holds Try.pinned (OpenSpec.upto windowOfferSpec)

/-- 'pursuivantlaw13.WindowPlay', WHERE WHAT IT READS IS OF BULK AT MOST 1048576: true; the input reads as it did. -/
def windowPlayUptoRow : OpenClaim := { program := "ythhageigbonoaaa", sum := "26fc492664299d2770168a8cabadc0972ecc1d413fc314e08cc1f7c283a92953", func := "pursuivant/pursuivantlaw13.WindowPlay", spec := "windowPlay", unfollowed := true, recurses := true, apart := false, narrowed := true }
def WindowPlayUptoSaid : Prop := windowPlayUptoRow.holds Try.pinned (OpenSpec.upto windowPlaySpec)

/-- 'pursuivantlaw13.WindowShut', WHERE WHAT IT READS IS OF BULK AT MOST 1048576: true; the input reads as it did. -/
def windowShutUptoRow : OpenClaim := { program := "ythhageigbonoaaa", sum := "26fc492664299d2770168a8cabadc0972ecc1d413fc314e08cc1f7c283a92953", func := "pursuivant/pursuivantlaw13.WindowShut", spec := "windowShut", unfollowed := true, recurses := true, apart := false, narrowed := true }
def WindowShutUptoSaid : Prop := windowShutUptoRow.holds Try.pinned (OpenSpec.upto windowShutSpec)

/-- 'pursuivantlaw13.WindowCopies', WHERE WHAT IT READS IS OF BULK AT MOST 1048576: true; the input reads as it did. -/
def windowCopiesUptoRow : OpenClaim := { program := "ythhageigbonoaaa", sum := "26fc492664299d2770168a8cabadc0972ecc1d413fc314e08cc1f7c283a92953", func := "pursuivant/pursuivantlaw13.WindowCopies", spec := "windowCopies", unfollowed := true, recurses := true, apart := false, narrowed := true }
def WindowCopiesUptoSaid : Prop := windowCopiesUptoRow.holds Try.pinned (OpenSpec.upto windowCopiesSpec)

/-- 'pursuivantlaw13.WindowNil', WHERE WHAT IT READS IS OF BULK AT MOST 1048576: true; the input reads as it did. -/
def windowNilUptoRow : OpenClaim := { program := "ythhageigbonoaaa", sum := "26fc492664299d2770168a8cabadc0972ecc1d413fc314e08cc1f7c283a92953", func := "pursuivant/pursuivantlaw13.WindowNil", spec := "windowNil", unfollowed := true, recurses := true, apart := false, narrowed := true }
def WindowNilUptoSaid : Prop := windowNilUptoRow.holds Try.pinned (OpenSpec.upto windowNilSpec)

end Rows
end Go.Proofs.Ythhageigbonoaaa
