import Derived.Test.YtkpgkoeclhlidaaO
namespace Go.Proofs.Ytkpgkoeclhlidaa
open Go.RowKit Go.Deep

set_option maxRecDepth 100000 in
set_option maxHeartbeats 4000000 in
theorem play_any (f l m t : Int) (la : Option Addr) (ln lc : Nat) (K N : Nat → Int) (E : Nat → Bool) (w : World) (hl : Acts w w.heap.size la ln K N E) (g0 : ln ≤ maxLen) :
    Calls Try.prog 5 #[agR f l m t, .slice la ln lc] w fun e w' => e = .returned (.bool true) ∧ Fr [] w w' := by
  have hmax : maxLen = 9223372036854775807 := rfl
  rw [hmax] at g0
  clear hmax
  by_cases g1 : ln ≤ 80
  · by_cases h : 1 ≤ l ∧ l ≤ f ∧ f ≤ m ∧ m ≤ 65536 ∧ 1 ≤ t ∧ t ≤ 100
    · exact play_yes f l m t la ln lc K N E w hl g1 h.1 h.2.1 h.2.2.1 h.2.2.2.1 h.2.2.2.2.1 h.2.2.2.2.2
    · have hn : l < 1 ∨ f < l ∨ m < f ∨ 65536 < m ∨ t < 1 ∨ 100 < t := by omega
      clear h hl
      have k1 := fun w => new_no f l m t w hn
      have k2 := fun w => rright_no f l m t w hn
      have K1 : Hid _ := k1
      have K2 : Hid _ := k2
      clear k1 k2 hn
      go_enter Try.func5, Try.ntmps5
      go_wp2_with fail
      refine (K1.out _).mono ?_
      rintro e w1 ⟨rfl, f1⟩
      have bR1 : Blk w1 w.heap.size 23 #[.int .i64 f, .int .i64 l, .int .i64 m, .int .i64 t] := Blk.fr (Blk.new _ _ _) f1 (by simp)
      have F1 : Fr [] w w1 := Fr.trans ((Fr.refl _ _).alloc _) f1 (by simp)
      obtain ⟨q0, q1, q2, q3⟩ := r4 bR1
      go_wp2_with fail
      refine (K2.out _).mono ?_
      rintro e w2 ⟨rfl, f2⟩
      have F2 : Fr [] w w2 := F1.trans f2 (by simp)
      clear q0 q1 q2 q3
      go_wp2_with (first | (go_at_call 8; refine (known_any _).mono ?_; rintro e w3 ⟨rfl, f3⟩))
      all_goals
        go_ret
        exact ⟨rfl, by first | exact F2.trans f3 (by simp) | exact (F2.drew).trans f3 (by simp)⟩
  · go_enter Try.func5, Try.ntmps5
    go_wp2_with (first | (go_at_call 8; refine (known_any _).mono ?_; rintro e w3 ⟨rfl, f3⟩))
    go_ret
    exact ⟨rfl, Fr.trans ((Fr.refl _ _).alloc _) f3 (by simp)⟩
end Go.Proofs.Ytkpgkoeclhlidaa
