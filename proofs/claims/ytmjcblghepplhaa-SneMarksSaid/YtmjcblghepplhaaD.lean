import Derived.Test.YtmjcblghepplhaaC
namespace Go.Proofs.Ytmjcblghepplhaa
open Go.RowKit

theorem ref_no (seq to : Int) (w : World) (h : to < 0 ∨ 4611686018427387904 < to) :
    Calls Try.prog 8 #[.int .u32 seq, .int .i64 to] w fun e w' => e = .returned (.tuple #[.int .i64 (nearV seq to).1, .int .i64 (nearV seq to).2]) ∧ w = w' := by
  have e : nearV seq to = (0, 2) := by unfold nearV; rw [if_pos h]
  rw [e]
  rcases h with h | h
  · go_enter Try.func8, Try.ntmps8
    go_wp2
    go_ret2
    exact ⟨rfl, rfl⟩
  · have h' : ¬ to < 0 := by omega
    go_enter Try.func8, Try.ntmps8
    go_wp2
    go_ret2
    exact ⟨rfl, rfl⟩

set_option maxHeartbeats 4000000 in
theorem ref_yes (seq to : Int) (w : World) (h0 : 0 ≤ seq) (h1 : seq < 4294967296) (h2 : 0 ≤ to) (h3 : to ≤ 4611686018427387904) :
    Calls Try.prog 8 #[.int .u32 seq, .int .i64 to] w fun e w' => e = .returned (.tuple #[.int .i64 (nearV seq to).1, .int .i64 (nearV seq to).2]) ∧ w = w' := by
  go_enter Try.func8, Try.ntmps8
  go_wp2
  go_rounds 4
  all_goals go_ret2
  all_goals refine ⟨ret2_eq ?_ ?_, rfl⟩
  all_goals (unfold nearV; dsimp only; (repeat' split) <;> (try dsimp only) <;> omega)
end Go.Proofs.Ytmjcblghepplhaa
