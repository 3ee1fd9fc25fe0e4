import Derived.Test.YtmgdbbbdhkfdmaaZ1
import Derived.Test.YtmgdbbbdhkfdmaaProg
set_option linter.unusedSimpArgs false
set_option linter.unusedVariables false
namespace Go.Proofs.Ytmgdbbbdhkfdmaa.Sne
set_option maxRecDepth 100000
open Go.RowKit

def nearV (seq to : Int) : Int × Int :=
  if to < 0 ∨ 4611686018427387904 < to then (0, 2) else
  let n := to - to % 4294967296 + seq
  let k := if 2147483648 < n - to ∧ 4294967296 ≤ n then n - 4294967296 else if n - to ≤ -2147483648 then n + 4294967296 else n
  if 4611686018427387904 < k then (0, 210) else (k, 0)

theorem makeFunc_run (fn : Fn) (first cap : Array Value) (w : World) : (Instr.makeFunc fn first cap).run Try.prog w = .ok (.func fn first cap) w := rfl

theorem near_walk (seq to : Int) (w : World) (h0 : 0 ≤ seq) (h1 : seq < 4294967296) (h2 : -9223372036854775808 ≤ to) (h3 : to ≤ 9223372036854775807) :
    Calls Try.prog 83 #[.int .u32 seq, .int .i64 to] w fun e w' => e = .returned (.tuple #[.int .i64 (nearV seq to).1, .int .i64 (nearV seq to).2]) ∧ Fr [] w w' := by
  have hmf := makeFunc_run
  go_enter Try.func83, Try.ntmps83
  go_wp2
  refine wp_scope_fwd 0 rfl ?_
  go_wp2
  all_goals (try (apply wp_goto; refine fwd_goto _ _ ?_; go_wp2))
  all_goals (try rw [Exit.noGoto_ret])
  all_goals (try rw [fwd_ret])
  all_goals go_ret2
  all_goals (refine ⟨ret2_eq ?_ ?_, (Fr.refl _ _).alloc _⟩ <;> unfold nearV <;> dsimp only <;> (repeat' split) <;> (try dsimp only) <;> omega)
end Go.Proofs.Ytmgdbbbdhkfdmaa.Sne
