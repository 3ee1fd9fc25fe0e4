import Derived.Test.YthhageigbonoaaaN
namespace Go.Proofs.Ythhageigbonoaaa
open Go.RowKit Go.Deep

theorem copies_any (la lb : Option Addr) (ln lc ln' lc' : Nat) (K N R K' N' R' : Nat → Int) (E E' : Nat → Bool) (w : World) (hl : Acts w w.heap.size la ln K N R E) (hl' : Acts w w.heap.size lb ln' K' N' R' E') (g0 : ln ≤ maxLen) (g0' : ln' ≤ maxLen) :
    Calls Try.prog 6 #[.slice la ln lc, .slice lb ln' lc'] w fun e w' => e = .returned (.bool true) ∧ Fr [] w w' := by
  have hmax : maxLen = 9223372036854775807 := rfl
  rw [hmax] at g0 g0'
  clear hmax
  by_cases g1 : ln ≤ 40
  · by_cases g2 : ln' ≤ 40
    · exact copies_yes la lb ln lc ln' lc' K N R K' N' R' E E' w hl hl' g1 g2
    · clear hl hl'
      go_enter Try.func6, Try.ntmps6
      go_wp2_with (first | (go_at_call 10; refine (known_any _).mono ?_; rintro e w3 ⟨rfl, f3⟩))
      go_ret
      exact ⟨rfl, f3⟩
  · clear hl hl'
    go_enter Try.func6, Try.ntmps6
    go_wp2_with (first | (go_at_call 10; refine (known_any _).mono ?_; rintro e w3 ⟨rfl, f3⟩))
    go_ret
    exact ⟨rfl, f3⟩
end Go.Proofs.Ythhageigbonoaaa
