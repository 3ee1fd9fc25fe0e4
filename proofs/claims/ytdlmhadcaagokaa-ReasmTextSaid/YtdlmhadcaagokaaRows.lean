/-
  No cell of these rows narrows 'for every input' (looked for: loops, veiled, ifaces, maps, wideKeys, modest, calm, conditions, laid).
  DERIVED. THE GIVEN ROWS OF THIS SEAT. 5 by the template 'for every input the law returns true; each argument reads behind the call as it read before'; 0 by the template 'total and deterministic' (their statements: YtdlmhadcaagokaaTotals.lean).
  GIVEN WITH THE SEED: the statements are not yours to turn. If you find one false, say at which input.
  Laid BY PROGRAM, IN A SANDBOX (cutbox-rows.mjs): the forced cells as the released guide's own fill.sh prints them over the translation 8f669c1ac66b8985… (all of the seat's roots in one cut). By AI agents, Wed Nov 11 2026. No macro, syntax, notation, axiom, sorry.
-/
import Derived.Test.YtdlmhadcaagokaaChecked
import GoSem.Claim
import GoSem.ClaimJoined
import GoSem.ClaimMapViews
import Derived.JoinedTies
import Derived.KernelRfl
namespace Go.Proofs.Ytdlmhadcaagokaa
/- THE CELL 'sum', in the pinned program and in every row, IS THE sha256 OF THE DUMP (.gsa) THAT YtdlmhadcaagokaaProg.lean LOADS. Nothing in Lean hashes anything: it is a label: what it is worth is what the hold of that sum in a sandbox is worth. -/
noncomputable def Try.pinned : Pinned := { name := "ytdlmhadcaagokaa", sum := "8f669c1ac66b8985bf0748f1efb4e3c916c849471fe84a0b7532747833ebe56d", checked := Try.checked }
namespace Rows
def none {H : Type} : Left H := { results := [], args := [] }

/-- 'pursuivantlaw15.ReasmPlay': WHATEVER THE INPUT: true; the input reads as it did. -/
def reasmPlaySpec : ChangeSpec := { name := "reasmPlay", fn := fun _ => fun
  | [d1, d2] => { results := [.lit (.bool true)], args := [d1, d2] }
  | _ => none }
def reasmPlayRow : OpenClaim := { program := "ytdlmhadcaagokaa", sum := "8f669c1ac66b8985bf0748f1efb4e3c916c849471fe84a0b7532747833ebe56d", func := "pursuivant/pursuivantlaw15.ReasmPlay", spec := "reasmPlay", unfollowed := true, recurses := true, apart := false }
def ReasmPlaySaid : Prop := reasmPlayRow.holds Try.pinned (OpenSpec.ofChange reasmPlaySpec)

/-- ITS FALSE NEIGHBOUR: 'it returns false'. Refute it at one input. -/
def reasmPlayWrong : ChangeSpec := { name := "reasmPlay", fn := fun _ => fun
  | [d1, d2] => { results := [.lit (.bool false)], args := [d1, d2] }
  | _ => none }
def ReasmPlayWrongFalsely : Prop := reasmPlayRow.holds Try.pinned (OpenSpec.ofChange reasmPlayWrong)

/-- 'pursuivantlaw15.ReasmText': WHATEVER THE INPUT: true; the input reads as it did. -/
def reasmTextSpec : ChangeSpec := { name := "reasmText", fn := fun _ => fun
  | [d1, d2, d3] => { results := [.lit (.bool true)], args := [d1, d2, d3] }
  | _ => none }
def reasmTextRow : OpenClaim := { program := "ytdlmhadcaagokaa", sum := "8f669c1ac66b8985bf0748f1efb4e3c916c849471fe84a0b7532747833ebe56d", func := "pursuivant/pursuivantlaw15.ReasmText", spec := "reasmText", unfollowed := true, recurses := true, apart := false }
def ReasmTextSaid : Prop := reasmTextRow.holds Try.pinned (OpenSpec.ofChange reasmTextSpec)

/-- ITS FALSE NEIGHBOUR: 'it returns false'. Refute it at one input. -/
def reasmTextWrong : ChangeSpec := { name := "reasmText", fn := fun _ => fun
  | [d1, d2, d3] => { results := [.lit (.bool false)], args := [d1, d2, d3] }
  | _ => none }
def ReasmTextWrongFalsely : Prop := reasmTextRow.holds Try.pinned (OpenSpec.ofChange reasmTextWrong)

/-- 'pursuivantlaw15.ReasmEnds': WHATEVER THE INPUT: true; the input reads as it did. -/
def reasmEndsSpec : ChangeSpec := { name := "reasmEnds", fn := fun _ => fun
  | [d1, d2] => { results := [.lit (.bool true)], args := [d1, d2] }
  | _ => none }
def reasmEndsRow : OpenClaim := { program := "ytdlmhadcaagokaa", sum := "8f669c1ac66b8985bf0748f1efb4e3c916c849471fe84a0b7532747833ebe56d", func := "pursuivant/pursuivantlaw15.ReasmEnds", spec := "reasmEnds", unfollowed := true, recurses := true, apart := false }
def ReasmEndsSaid : Prop := reasmEndsRow.holds Try.pinned (OpenSpec.ofChange reasmEndsSpec)

/-- ITS FALSE NEIGHBOUR: 'it returns false'. Refute it at one input. -/
def reasmEndsWrong : ChangeSpec := { name := "reasmEnds", fn := fun _ => fun
  | [d1, d2] => { results := [.lit (.bool false)], args := [d1, d2] }
  | _ => none }
def ReasmEndsWrongFalsely : Prop := reasmEndsRow.holds Try.pinned (OpenSpec.ofChange reasmEndsWrong)

/-- 'pursuivantlaw15.ReasmCopies': WHATEVER THE INPUT: true; the input reads as it did. -/
def reasmCopiesSpec : ChangeSpec := { name := "reasmCopies", fn := fun _ => fun
  | [d1, d2, d3] => { results := [.lit (.bool true)], args := [d1, d2, d3] }
  | _ => none }
def reasmCopiesRow : OpenClaim := { program := "ytdlmhadcaagokaa", sum := "8f669c1ac66b8985bf0748f1efb4e3c916c849471fe84a0b7532747833ebe56d", func := "pursuivant/pursuivantlaw15.ReasmCopies", spec := "reasmCopies", unfollowed := true, recurses := true, apart := false }
def ReasmCopiesSaid : Prop := reasmCopiesRow.holds Try.pinned (OpenSpec.ofChange reasmCopiesSpec)

/-- ITS FALSE NEIGHBOUR: 'it returns false'. Refute it at one input. -/
def reasmCopiesWrong : ChangeSpec := { name := "reasmCopies", fn := fun _ => fun
  | [d1, d2, d3] => { results := [.lit (.bool false)], args := [d1, d2, d3] }
  | _ => none }
def ReasmCopiesWrongFalsely : Prop := reasmCopiesRow.holds Try.pinned (OpenSpec.ofChange reasmCopiesWrong)

/-- 'pursuivantlaw15.ReasmNil': WHATEVER THE INPUT: true; the input reads as it did. -/
def reasmNilSpec : ChangeSpec := { name := "reasmNil", fn := fun _ => fun
  | [d1, d2] => { results := [.lit (.bool true)], args := [d1, d2] }
  | _ => none }
def reasmNilRow : OpenClaim := { program := "ytdlmhadcaagokaa", sum := "8f669c1ac66b8985bf0748f1efb4e3c916c849471fe84a0b7532747833ebe56d", func := "pursuivant/pursuivantlaw15.ReasmNil", spec := "reasmNil", unfollowed := true, recurses := true, apart := false }
def ReasmNilSaid : Prop := reasmNilRow.holds Try.pinned (OpenSpec.ofChange reasmNilSpec)

/-- ITS FALSE NEIGHBOUR: 'it returns false'. Refute it at one input. -/
def reasmNilWrong : ChangeSpec := { name := "reasmNil", fn := fun _ => fun
  | [d1, d2] => { results := [.lit (.bool false)], args := [d1, d2] }
  | _ => none }
def ReasmNilWrongFalsely : Prop := reasmNilRow.holds Try.pinned (OpenSpec.ofChange reasmNilWrong)

/- THE SECOND FORM. 'bulk': how many values and letters a reading holds, each counted each time it is reached (what is shared counts as often as it is met; a slice's spare places count too). A statement '..UptoSaid' is the law's where the arguments, and the package variables that the reading takes, are together of bulk at most 1048576: NARROWER than '..Said'. Prove '..Said' where nothing that the law and all that it calls make is longer than what came in: it says more and counts as full. Else prove '..UptoSaid'. A law counts once. -/
mutual
def uptoBulk {H : Type} : DataW H → Nat
  | .lit (.string bytes) => bytes.length + 1
  | .lit _ => 1
  | .nil => 1
  | .ptr d => uptoBulk d + 1
  | .slice elems spare => uptoBulkAll elems + uptoBulkAll spare + 1
  | .agg parts => uptoBulkAll parts + 1
  | .iface _ d => uptoBulk d + 1
  | .map entries => uptoBulkEntries entries + 1
  | .held _ => 1
def uptoBulkAll {H : Type} : List (DataW H) → Nat
  | [] => 0
  | d :: r => uptoBulk d + uptoBulkAll r
def uptoBulkEntries {H : Type} : List (Lit × DataW H) → Nat
  | [] => 0
  | x :: r => uptoBulkEntry x + uptoBulkEntries r
def uptoBulkEntry {H : Type} : Lit × DataW H → Nat
  | (.string bytes, d) => bytes.length + uptoBulk d + 1
  | (_, d) => uptoBulk d + 1
 end
def uptoSmall : (H : Type) → List (DataW H) → Bool := fun _ ds => decide (uptoBulkAll ds ≤ 1048576)
def OpenSpec.upto (s : _root_.Go.ChangeSpec) : _root_.Go.OpenSpec := { _root_.Go.OpenSpec.ofChange s with cond := some uptoSmall }

/-- 'pursuivantlaw15.ReasmPlay', WHERE WHAT IT READS IS OF BULK AT MOST 1048576: true; the input reads as it did. -/
def reasmPlayUptoRow : OpenClaim := { program := "ytdlmhadcaagokaa", sum := "8f669c1ac66b8985bf0748f1efb4e3c916c849471fe84a0b7532747833ebe56d", func := "pursuivant/pursuivantlaw15.ReasmPlay", spec := "reasmPlay", unfollowed := true, recurses := true, apart := false, narrowed := true }
def ReasmPlayUptoSaid : Prop := reasmPlayUptoRow.holds Try.pinned (OpenSpec.upto reasmPlaySpec)

/-- 'pursuivantlaw15.ReasmText', WHERE WHAT IT READS IS OF BULK AT MOST 1048576: true; the input reads as it did. -/
def reasmTextUptoRow : OpenClaim := { program := "ytdlmhadcaagokaa", sum := "8f669c1ac66b8985bf0748f1efb4e3c916c849471fe84a0b7532747833ebe56d", func := "pursuivant/pursuivantlaw15.ReasmText", spec := "reasmText", unfollowed := true, recurses := true, apart := false, narrowed := true }
def ReasmTextUptoSaid : Prop := reasmTextUptoRow.holds Try.pinned (OpenSpec.upto reasmTextSpec)

/-- 'pursuivantlaw15.ReasmEnds', WHERE WHAT IT READS IS OF BULK AT MOST 1048576: true; the input reads as it did. -/
def reasmEndsUptoRow : OpenClaim := { program := "ytdlmhadcaagokaa", sum := "8f669c1ac66b8985bf0748f1efb4e3c916c849471fe84a0b7532747833ebe56d", func := "pursuivant/pursuivantlaw15.ReasmEnds", spec := "reasmEnds", unfollowed := true, recurses := true, apart := false, narrowed := true }
def ReasmEndsUptoSaid : Prop := reasmEndsUptoRow.holds Try.pinned (OpenSpec.upto reasmEndsSpec)

/-- 'pursuivantlaw15.ReasmCopies', WHERE WHAT IT READS IS OF BULK AT MOST 1048576: true; the input reads as it did. -/
def reasmCopiesUptoRow : OpenClaim := { program := "ytdlmhadcaagokaa", sum := "8f669c1ac66b8985bf0748f1efb4e3c916c849471fe84a0b7532747833ebe56d", func := "pursuivant/pursuivantlaw15.ReasmCopies", spec := "reasmCopies", unfollowed := true, recurses := true, apart := false, narrowed := true }
def ReasmCopiesUptoSaid : Prop := reasmCopiesUptoRow.holds Try.pinned (OpenSpec.upto reasmCopiesSpec)

/-- 'pursuivantlaw15.ReasmNil', WHERE WHAT IT READS IS OF BULK AT MOST 1048576: true; the input reads as it did. -/
def reasmNilUptoRow : OpenClaim := { program := "ytdlmhadcaagokaa", sum := "8f669c1ac66b8985bf0748f1efb4e3c916c849471fe84a0b7532747833ebe56d", func := "pursuivant/pursuivantlaw15.ReasmNil", spec := "reasmNil", unfollowed := true, recurses := true, apart := false, narrowed := true }
def ReasmNilUptoSaid : Prop := reasmNilUptoRow.holds Try.pinned (OpenSpec.upto reasmNilSpec)

end Rows
end Go.Proofs.Ytdlmhadcaagokaa
