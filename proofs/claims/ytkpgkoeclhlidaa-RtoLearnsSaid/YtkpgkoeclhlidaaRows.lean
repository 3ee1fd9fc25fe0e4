/-
  No cell of these rows narrows 'for every input' (looked for: loops, veiled, ifaces, maps, wideKeys, modest, calm, conditions, laid).
  DERIVED. THE GIVEN ROWS OF THIS SEAT. 5 by the template 'for every input the law returns true; each argument reads behind the call as it read before'; 0 by the template 'total and deterministic' (their statements: YtkpgkoeclhlidaaTotals.lean).
  GIVEN WITH THE SEED: the statements are not yours to turn. If you find one false, say at which input.
  Laid BY PROGRAM, IN A SANDBOX (cutbox-rows.mjs): the forced cells as the released guide's own fill.sh prints them over the translation c03e54ed849c9b3c… (all of the seat's roots in one cut). By AI agents, Wed Nov 11 2026. No macro, syntax, notation, axiom, sorry.
-/
import Derived.Test.YtkpgkoeclhlidaaChecked
import GoSem.Claim
import GoSem.ClaimJoined
import GoSem.ClaimMapViews
import Derived.JoinedTies
import Derived.KernelRfl
namespace Go.Proofs.Ytkpgkoeclhlidaa
/- THE CELL 'sum', in the pinned program and in every row, IS THE sha256 OF THE DUMP (.gsa) THAT YtkpgkoeclhlidaaProg.lean LOADS. Nothing in Lean hashes anything: it is a label: what it is worth is what the hold of that sum in a sandbox is worth. -/
noncomputable def Try.pinned : Pinned := { name := "ytkpgkoeclhlidaa", sum := "c03e54ed849c9b3c65788face10d00c0d5879001ab7c4c850df635556217bc1a", checked := Try.checked }
namespace Rows
def none {H : Type} : Left H := { results := [], args := [] }

/-- 'pursuivantlaw14.RtoGives': WHATEVER THE INPUT: true; the input reads as it did. -/
def rtoGivesSpec : ChangeSpec := { name := "rtoGives", fn := fun _ => fun
  | [d1, d2, d3] => { results := [.lit (.bool true)], args := [d1, d2, d3] }
  | _ => none }
def rtoGivesRow : OpenClaim := { program := "ytkpgkoeclhlidaa", sum := "c03e54ed849c9b3c65788face10d00c0d5879001ab7c4c850df635556217bc1a", func := "pursuivant/pursuivantlaw14.RtoGives", spec := "rtoGives", apart := false }
def RtoGivesSaid : Prop := rtoGivesRow.holds Try.pinned (OpenSpec.ofChange rtoGivesSpec)

/-- ITS FALSE NEIGHBOUR: 'it returns false'. Refute it at one input. -/
def rtoGivesWrong : ChangeSpec := { name := "rtoGives", fn := fun _ => fun
  | [d1, d2, d3] => { results := [.lit (.bool false)], args := [d1, d2, d3] }
  | _ => none }
def RtoGivesWrongFalsely : Prop := rtoGivesRow.holds Try.pinned (OpenSpec.ofChange rtoGivesWrong)

/-- 'pursuivantlaw14.RtoLearns': WHATEVER THE INPUT: true; the input reads as it did. -/
def rtoLearnsSpec : ChangeSpec := { name := "rtoLearns", fn := fun _ => fun
  | [d1, d2, d3] => { results := [.lit (.bool true)], args := [d1, d2, d3] }
  | _ => none }
def rtoLearnsRow : OpenClaim := { program := "ytkpgkoeclhlidaa", sum := "c03e54ed849c9b3c65788face10d00c0d5879001ab7c4c850df635556217bc1a", func := "pursuivant/pursuivantlaw14.RtoLearns", spec := "rtoLearns", apart := false }
def RtoLearnsSaid : Prop := rtoLearnsRow.holds Try.pinned (OpenSpec.ofChange rtoLearnsSpec)

/-- ITS FALSE NEIGHBOUR: 'it returns false'. Refute it at one input. -/
def rtoLearnsWrong : ChangeSpec := { name := "rtoLearns", fn := fun _ => fun
  | [d1, d2, d3] => { results := [.lit (.bool false)], args := [d1, d2, d3] }
  | _ => none }
def RtoLearnsWrongFalsely : Prop := rtoLearnsRow.holds Try.pinned (OpenSpec.ofChange rtoLearnsWrong)

/-- 'pursuivantlaw14.RtoPlay': WHATEVER THE INPUT: true; the input reads as it did. -/
def rtoPlaySpec : ChangeSpec := { name := "rtoPlay", fn := fun _ => fun
  | [d1, d2] => { results := [.lit (.bool true)], args := [d1, d2] }
  | _ => none }
def rtoPlayRow : OpenClaim := { program := "ytkpgkoeclhlidaa", sum := "c03e54ed849c9b3c65788face10d00c0d5879001ab7c4c850df635556217bc1a", func := "pursuivant/pursuivantlaw14.RtoPlay", spec := "rtoPlay", apart := false }
def RtoPlaySaid : Prop := rtoPlayRow.holds Try.pinned (OpenSpec.ofChange rtoPlaySpec)

/-- ITS FALSE NEIGHBOUR: 'it returns false'. Refute it at one input. -/
def rtoPlayWrong : ChangeSpec := { name := "rtoPlay", fn := fun _ => fun
  | [d1, d2] => { results := [.lit (.bool false)], args := [d1, d2] }
  | _ => none }
def RtoPlayWrongFalsely : Prop := rtoPlayRow.holds Try.pinned (OpenSpec.ofChange rtoPlayWrong)

/-- 'pursuivantlaw14.RtoCopies': WHATEVER THE INPUT: true; the input reads as it did. -/
def rtoCopiesSpec : ChangeSpec := { name := "rtoCopies", fn := fun _ => fun
  | [d1, d2, d3] => { results := [.lit (.bool true)], args := [d1, d2, d3] }
  | _ => none }
def rtoCopiesRow : OpenClaim := { program := "ytkpgkoeclhlidaa", sum := "c03e54ed849c9b3c65788face10d00c0d5879001ab7c4c850df635556217bc1a", func := "pursuivant/pursuivantlaw14.RtoCopies", spec := "rtoCopies", apart := false }
def RtoCopiesSaid : Prop := rtoCopiesRow.holds Try.pinned (OpenSpec.ofChange rtoCopiesSpec)

/-- ITS FALSE NEIGHBOUR: 'it returns false'. Refute it at one input. -/
def rtoCopiesWrong : ChangeSpec := { name := "rtoCopies", fn := fun _ => fun
  | [d1, d2, d3] => { results := [.lit (.bool false)], args := [d1, d2, d3] }
  | _ => none }
def RtoCopiesWrongFalsely : Prop := rtoCopiesRow.holds Try.pinned (OpenSpec.ofChange rtoCopiesWrong)

/-- 'pursuivantlaw14.RtoNil': WHATEVER THE INPUT: true; the input reads as it did. -/
def rtoNilSpec : ChangeSpec := { name := "rtoNil", fn := fun _ => fun
  | [d] => { results := [.lit (.bool true)], args := [d] }
  | _ => none }
def rtoNilRow : OpenClaim := { program := "ytkpgkoeclhlidaa", sum := "c03e54ed849c9b3c65788face10d00c0d5879001ab7c4c850df635556217bc1a", func := "pursuivant/pursuivantlaw14.RtoNil", spec := "rtoNil", apart := false }
def RtoNilSaid : Prop := rtoNilRow.holds Try.pinned (OpenSpec.ofChange rtoNilSpec)

/-- ITS FALSE NEIGHBOUR: 'it returns false'. Refute it at one input. -/
def rtoNilWrong : ChangeSpec := { name := "rtoNil", fn := fun _ => fun
  | [d] => { results := [.lit (.bool false)], args := [d] }
  | _ => none }
def RtoNilWrongFalsely : Prop := rtoNilRow.holds Try.pinned (OpenSpec.ofChange rtoNilWrong)

/- THE SECOND FORM. 'bulk': how many values and letters a reading holds, each counted each time it is reached (what is shared counts as often as it is met; a slice's spare places count too). A statement '..UptoSaid' is the law's where the arguments, and the package variables that the reading takes, are together of bulk at most 1048576: NARROWER than '..Said'. Prove '..Said' where nothing that the law and all that it calls make is longer than what came in: it says more and counts as full. Else prove '..UptoSaid'. A law counts once. -/
mutual
def uptoBulk {H : Type} : DataW H → Nat
  | .lit (.string bytes) => bytes.length + 1
  | .lit _ => 1
  | .nil => 1
  | .ptr d => uptoBulk d + 1
  | .slice elems spare => uptoBulkAll elems + uptoBulkAll spare + 1
  | .agg parts => uptoBulkAll parts + 1
  | .iface _ d => uptoBulk d + 1
  | .map entries => uptoBulkEntries entries + 1
  | .held _ => 1
def uptoBulkAll {H : Type} : List (DataW H) → Nat
  | [] => 0
  | d :: r => uptoBulk d + uptoBulkAll r
def uptoBulkEntries {H : Type} : List (Lit × DataW H) → Nat
  | [] => 0
  | x :: r => uptoBulkEntry x + uptoBulkEntries r
def uptoBulkEntry {H : Type} : Lit × DataW H → Nat
  | (.string bytes, d) => bytes.length + uptoBulk d + 1
  | (_, d) => uptoBulk d + 1
 end
def uptoSmall : (H : Type) → List (DataW H) → Bool := fun _ ds => decide (uptoBulkAll ds ≤ 1048576)
def OpenSpec.upto (s : _root_.Go.ChangeSpec) : _root_.Go.OpenSpec := { _root_.Go.OpenSpec.ofChange s with cond := some uptoSmall }

/-- 'pursuivantlaw14.RtoGives', WHERE WHAT IT READS IS OF BULK AT MOST 1048576: true; the input reads as it did. -/
def rtoGivesUptoRow : OpenClaim := { program := "ytkpgkoeclhlidaa", sum := "c03e54ed849c9b3c65788face10d00c0d5879001ab7c4c850df635556217bc1a", func := "pursuivant/pursuivantlaw14.RtoGives", spec := "rtoGives", apart := false, narrowed := true }
def RtoGivesUptoSaid : Prop := rtoGivesUptoRow.holds Try.pinned (OpenSpec.upto rtoGivesSpec)

/-- 'pursuivantlaw14.RtoLearns', WHERE WHAT IT READS IS OF BULK AT MOST 1048576: true; the input reads as it did. -/
def rtoLearnsUptoRow : OpenClaim := { program := "ytkpgkoeclhlidaa", sum := "c03e54ed849c9b3c65788face10d00c0d5879001ab7c4c850df635556217bc1a", func := "pursuivant/pursuivantlaw14.RtoLearns", spec := "rtoLearns", apart := false, narrowed := true }
def RtoLearnsUptoSaid : Prop := rtoLearnsUptoRow.holds Try.pinned (OpenSpec.upto rtoLearnsSpec)

/-- 'pursuivantlaw14.RtoPlay', WHERE WHAT IT READS IS OF BULK AT MOST 1048576: true; the input reads as it did. -/
def rtoPlayUptoRow : OpenClaim := { program := "ytkpgkoeclhlidaa", sum := "c03e54ed849c9b3c65788face10d00c0d5879001ab7c4c850df635556217bc1a", func := "pursuivant/pursuivantlaw14.RtoPlay", spec := "rtoPlay", apart := false, narrowed := true }
def RtoPlayUptoSaid : Prop := rtoPlayUptoRow.holds Try.pinned (OpenSpec.upto rtoPlaySpec)

/-- 'pursuivantlaw14.RtoCopies', WHERE WHAT IT READS IS OF BULK AT MOST 1048576: true; the input reads as it did. -/
def rtoCopiesUptoRow : OpenClaim := { program := "ytkpgkoeclhlidaa", sum := "c03e54ed849c9b3c65788face10d00c0d5879001ab7c4c850df635556217bc1a", func := "pursuivant/pursuivantlaw14.RtoCopies", spec := "rtoCopies", apart := false, narrowed := true }
def RtoCopiesUptoSaid : Prop := rtoCopiesUptoRow.holds Try.pinned (OpenSpec.upto rtoCopiesSpec)

/-- 'pursuivantlaw14.RtoNil', WHERE WHAT IT READS IS OF BULK AT MOST 1048576: true; the input reads as it did. -/
def rtoNilUptoRow : OpenClaim := { program := "ytkpgkoeclhlidaa", sum := "c03e54ed849c9b3c65788face10d00c0d5879001ab7c4c850df635556217bc1a", func := "pursuivant/pursuivantlaw14.RtoNil", spec := "rtoNil", apart := false, narrowed := true }
def RtoNilUptoSaid : Prop := rtoNilUptoRow.holds Try.pinned (OpenSpec.upto rtoNilSpec)

end Rows
end Go.Proofs.Ytkpgkoeclhlidaa
