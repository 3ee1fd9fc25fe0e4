import Derived.Test.YthhageigbonoaaaH
namespace Go.Proofs.Ythhageigbonoaaa
open Go.RowKit

def offerV (most held : Int) : Int × Int := if most < 0 ∨ 65535 < most ∨ held < 0 ∨ most < held then (0, 2) else if most - held < 64 ∧ 2 * (most - held) < most then (0, 0) else (most - held, 0)

theorem offer_any (most held : Int) (w : World) : Calls Try.prog 8 #[.int .i64 most, .int .i64 held] w fun e w' => e = .returned (.tuple #[.int .i64 (offerV most held).1, .int .i64 (offerV most held).2]) ∧ w = w' := by
  unfold offerV
  by_cases h1 : most < 0
  · rw [if_pos (by omega)]
    go_enter Try.func8, Try.ntmps8
    go_wp2
    go_ret2
    exact ⟨rfl, rfl⟩
  by_cases h2 : held < 0
  · rw [if_pos (by omega)]
    go_enter Try.func8, Try.ntmps8
    go_wp2
    go_ret2
    exact ⟨rfl, rfl⟩
  by_cases h3 : most < held
  · rw [if_pos (by omega)]
    go_enter Try.func8, Try.ntmps8
    go_wp2
    go_ret2
    exact ⟨rfl, rfl⟩
  by_cases h4 : 65535 < most
  · rw [if_pos (by omega)]
    go_enter Try.func8, Try.ntmps8
    go_wp2
    go_ret2
    exact ⟨rfl, rfl⟩
  rw [if_neg (by omega)]
  by_cases h5 : most - held < 64
  · by_cases h6 : 2 * (most - held) < most
    · rw [if_pos (by omega)]
      go_enter Try.func8, Try.ntmps8
      go_wp2
      go_ret2
      exact ⟨rfl, rfl⟩
    · rw [if_neg (by omega)]
      go_enter Try.func8, Try.ntmps8
      go_wp2
      go_ret2
      exact ⟨rfl, rfl⟩
  · rw [if_neg (by omega)]
    go_enter Try.func8, Try.ntmps8
    go_wp2
    go_ret2
    exact ⟨rfl, rfl⟩

theorem roffer_any (most held : Int) (w : World) : Calls Try.prog 9 #[.int .i64 most, .int .i64 held] w fun e w' => e = .returned (.tuple #[.int .i64 (offerV most held).1, .int .i64 (offerV most held).2]) ∧ w = w' := by
  unfold offerV
  by_cases h1 : most < 0
  · rw [if_pos (by omega)]
    go_enter Try.func9, Try.ntmps9
    go_wp2
    go_ret2
    exact ⟨rfl, rfl⟩
  by_cases h4 : 65535 < most
  · rw [if_pos (by omega)]
    go_enter Try.func9, Try.ntmps9
    go_wp2
    go_ret2
    exact ⟨rfl, rfl⟩
  by_cases h2 : held < 0
  · rw [if_pos (by omega)]
    go_enter Try.func9, Try.ntmps9
    go_wp2
    go_ret2
    exact ⟨rfl, rfl⟩
  by_cases h3 : most < held
  · rw [if_pos (by omega)]
    go_enter Try.func9, Try.ntmps9
    go_wp2
    go_ret2
    exact ⟨rfl, rfl⟩
  rw [if_neg (by omega)]
  by_cases h5 : most - held < 64
  · by_cases h6 : most - held + (most - held) < most
    · rw [if_pos (by omega)]
      go_enter Try.func9, Try.ntmps9
      go_wp2
      go_ret2
      exact ⟨rfl, rfl⟩
    · rw [if_neg (by omega)]
      go_enter Try.func9, Try.ntmps9
      go_wp2
      go_ret2
      exact ⟨rfl, rfl⟩
  · rw [if_neg (by omega)]
    go_enter Try.func9, Try.ntmps9
    go_wp2
    go_ret2
    exact ⟨rfl, rfl⟩

theorem windowOffer_any (most held : Int) (w : World) : Calls Try.prog 3 #[.int .i64 most, .int .i64 held] w fun e w' => e = .returned (.bool true) ∧ Fr [] w w' := by
  have ho : (offerV most held).1 = 0 ∨ ((offerV most held).1 = most - held ∧ most ≤ 65535 ∧ 0 ≤ held ∧ held ≤ most ∧ most - held ≠ 0) := by
    unfold offerV
    (repeat' split) <;> dsimp only <;> omega
  have k1 := fun W => offer_any most held W
  have k2 := fun W => roffer_any most held W
  revert ho k1 k2
  generalize offerV most held = T
  intro ho k1 k2
  obtain ⟨n, e⟩ := T
  dsimp only at ho k1 k2
  have K1 : Hid _ := k1
  have K2 : Hid _ := k2
  clear k1 k2
  rcases ho with rfl | ⟨rfl, h1, h2, h3, h4⟩
  · go_enter Try.func3, Try.ntmps3
    go_wp2_with (first | (go_at_call 8; refine (K1.out _).mono ?_; rintro e w1 ⟨rfl, rfl⟩) | (go_at_call 9; refine (K2.out _).mono ?_; rintro e w1 ⟨rfl, rfl⟩) | (go_at_call 10; refine (known_any _).mono ?_; rintro e w1 ⟨rfl, f1⟩))
    go_ret
    exact ⟨rfl, f1⟩
  · have h5 : (most - held == 0) = false := by simpa using h4
    clear h4
    go_enter Try.func3, Try.ntmps3
    go_wp2_with (first | (go_at_call 8; refine (K1.out _).mono ?_; rintro e w1 ⟨rfl, rfl⟩) | (go_at_call 9; refine (K2.out _).mono ?_; rintro e w1 ⟨rfl, rfl⟩) | (go_at_call 10; refine (known_any _).mono ?_; rintro e w1 ⟨rfl, f1⟩))
    go_ret
    exact ⟨rfl, f1⟩
end Go.Proofs.Ythhageigbonoaaa
