import Derived.Test.YtkpgkoeclhlidaaZ
namespace Go.Proofs.Ytkpgkoeclhlidaa
open Go.RowKit Go.Deep

set_option maxHeartbeats 4000000 in
theorem learns_any (f l m t : Int) (n : Int) (la : Option Addr) (ln lc : Nat) (zs : Nat → Int) (w : World) (hl : Reads w w.heap.size la ln (fun i => .int .i64 (zs i))) (g0 : ln ≤ maxLen) :
    Calls Try.prog 4 #[agR f l m t, .int .i64 n, .slice la ln lc] w fun e w' => e = .returned (.bool true) ∧ Fr [] w w' := by
  have hmax : maxLen = 9223372036854775807 := rfl
  rw [hmax] at g0
  clear hmax
  by_cases n0 : 0 ≤ n
  · by_cases n1 : n ≤ 2000
    · by_cases g1 : ln ≤ 10
      · by_cases h : 1 ≤ l ∧ l ≤ f ∧ f ≤ m ∧ m ≤ 65536 ∧ 1 ≤ t ∧ t ≤ 100
        · exact learns_yes f l m t n la ln lc zs w hl g1 n0 n1 h.1 h.2.1 h.2.2.1 h.2.2.2.1 h.2.2.2.2.1 h.2.2.2.2.2
        · have hn : l < 1 ∨ f < l ∨ m < f ∨ 65536 < m ∨ t < 1 ∨ 100 < t := by omega
          clear h hl
          have k1 := fun w => new_no f l m t w hn
          have K1 : Hid _ := k1
          clear k1 hn
          go_enter Try.func4, Try.ntmps4
          go_wp2_with fail
          refine (K1.out _).mono ?_
          rintro e w1 ⟨rfl, f1⟩
          have F1 : Fr [] w w1 := Fr.trans ((Fr.refl _ _).alloc _) f1 (by simp)
          go_wp2_with fail
          refine (known_any _).mono ?_
          rintro e w3 ⟨rfl, f3⟩
          go_wp2_with fail
          go_ret
          exact ⟨rfl, F1.trans f3 (by simp)⟩
      · clear hl
        go_enter Try.func4, Try.ntmps4
        go_wp2_with (first | (go_at_call 8; refine (known_any _).mono ?_; rintro e w3 ⟨rfl, f3⟩))
        go_ret
        exact ⟨rfl, Fr.trans ((Fr.refl _ _).alloc _) f3 (by simp)⟩
    · clear hl
      go_enter Try.func4, Try.ntmps4
      go_wp2_with (first | (go_at_call 8; refine (known_any _).mono ?_; rintro e w3 ⟨rfl, f3⟩))
      go_ret
      exact ⟨rfl, Fr.trans ((Fr.refl _ _).alloc _) f3 (by simp)⟩
  · clear hl
    go_enter Try.func4, Try.ntmps4
    go_wp2_with (first | (go_at_call 8; refine (known_any _).mono ?_; rintro e w3 ⟨rfl, f3⟩))
    go_ret
    exact ⟨rfl, Fr.trans ((Fr.refl _ _).alloc _) f3 (by simp)⟩
end Go.Proofs.Ytkpgkoeclhlidaa
