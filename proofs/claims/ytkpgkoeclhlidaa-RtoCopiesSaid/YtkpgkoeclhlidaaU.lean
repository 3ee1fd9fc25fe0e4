import Derived.Test.YtkpgkoeclhlidaaT
namespace Go.Proofs.Ytkpgkoeclhlidaa
open Go.RowKit Go.Deep

set_option maxHeartbeats 4000000 in
theorem copies_any (f l m t : Int) (la lb : Option Addr) (ln lc ln' lc' : Nat) (K N K' N' : Nat → Int) (E E' : Nat → Bool) (w : World) (hl : Acts w w.heap.size la ln K N E) (hl' : Acts w w.heap.size lb ln' K' N' E') (g0 : ln ≤ maxLen) (g0' : ln' ≤ maxLen) :
    Calls Try.prog 6 #[agR f l m t, .slice la ln lc, .slice lb ln' lc'] w fun e w' => e = .returned (.bool true) ∧ Fr [] w w' := by
  have hmax : maxLen = 9223372036854775807 := rfl
  rw [hmax] at g0 g0'
  clear hmax
  by_cases g1 : ln ≤ 40
  · by_cases g2 : ln' ≤ 40
    · by_cases h : 1 ≤ l ∧ l ≤ f ∧ f ≤ m ∧ m ≤ 65536 ∧ 1 ≤ t ∧ t ≤ 100
      · exact copies_yes f l m t la lb ln lc ln' lc' K N K' N' E E' w hl hl' g1 g2 h.1 h.2.1 h.2.2.1 h.2.2.2.1 h.2.2.2.2.1 h.2.2.2.2.2
      · have hn : l < 1 ∨ f < l ∨ m < f ∨ 65536 < m ∨ t < 1 ∨ 100 < t := by omega
        clear h hl hl'
        have k1 := fun w => new_no f l m t w hn
        have K1 : Hid _ := k1
        clear k1 hn
        go_enter Try.func6, Try.ntmps6
        go_wp2_with fail
        refine (K1.out _).mono ?_
        rintro e w1 ⟨rfl, f1⟩
        have F1 : Fr [] w w1 := Fr.trans ((Fr.refl _ _).alloc _) f1 (by simp)
        go_wp2_with fail
        refine (known_any _).mono ?_
        rintro e w3 ⟨rfl, f3⟩
        go_wp2_with fail
        go_ret
        exact ⟨rfl, F1.trans f3 (by simp)⟩
    · clear hl hl'
      go_enter Try.func6, Try.ntmps6
      go_wp2_with (first | (go_at_call 8; refine (known_any _).mono ?_; rintro e w3 ⟨rfl, f3⟩))
      go_ret
      exact ⟨rfl, Fr.trans ((Fr.refl _ _).alloc _) f3 (by simp)⟩
  · clear hl hl'
    go_enter Try.func6, Try.ntmps6
    go_wp2_with (first | (go_at_call 8; refine (known_any _).mono ?_; rintro e w3 ⟨rfl, f3⟩))
    go_ret
    exact ⟨rfl, Fr.trans ((Fr.refl _ _).alloc _) f3 (by simp)⟩
end Go.Proofs.Ytkpgkoeclhlidaa
