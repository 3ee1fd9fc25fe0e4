import Derived.Test.YthhageigbonoaaaI
namespace Go.Proofs.Ythhageigbonoaaa
open Go.RowKit Go.Deep

theorem play_any (la : Option Addr) (ln lc : Nat) (K N R : Nat → Int) (E : Nat → Bool) (w : World) (hl : Acts w w.heap.size la ln K N R E) (hm : ln ≤ maxLen) :
    Calls Try.prog 4 #[.slice la ln lc] w fun e w' => e = .returned (.bool true) ∧ Fr [] w w' := by
  unfold maxLen at hm
  by_cases g1 : ln ≤ 80
  · exact play_yes la ln lc K N R E w hl g1
  · clear hl
    have g4 : (80 : Int) < (ln : Int) := by omega
    clear g1
    go_enter Try.func4, Try.ntmps4
    go_wp2_with (go_at_call 10; refine (known_any _).mono ?_; rintro e w2 ⟨rfl, f2⟩)
    go_ret
    exact ⟨rfl, f2⟩

/-- Twelve acts that lie in one block. -/
theorem acts12 {w : World} {g : Nat} {t : TypeId} {kk nn rr : Nat → Int} (h : Blk w g t #[.int .i64 (kk 0), .int .i64 (nn 0), .int .i64 (rr 0), .bool false, .int .i64 (kk 1), .int .i64 (nn 1), .int .i64 (rr 1), .bool false, .int .i64 (kk 2), .int .i64 (nn 2), .int .i64 (rr 2), .bool false, .int .i64 (kk 3), .int .i64 (nn 3), .int .i64 (rr 3), .bool false,
    .int .i64 (kk 4), .int .i64 (nn 4), .int .i64 (rr 4), .bool false, .int .i64 (kk 5), .int .i64 (nn 5), .int .i64 (rr 5), .bool false, .int .i64 (kk 6), .int .i64 (nn 6), .int .i64 (rr 6), .bool false, .int .i64 (kk 7), .int .i64 (nn 7), .int .i64 (rr 7), .bool false,
    .int .i64 (kk 8), .int .i64 (nn 8), .int .i64 (rr 8), .bool false, .int .i64 (kk 9), .int .i64 (nn 9), .int .i64 (rr 9), .bool false, .int .i64 (kk 10), .int .i64 (nn 10), .int .i64 (rr 10), .bool false, .int .i64 (kk 11), .int .i64 (nn 11), .int .i64 (rr 11), .bool false]) :
    Acts w w.heap.size (some ⟨g, 0, none⟩) 12 kk nn rr (fun _ => false) := by
  refine ⟨fun i hi => ⟨g, 0, rfl, Blk.lt h, ?_⟩⟩
  have hc := Blk.cell h
  match i, hi with
  | 0, _ => exact ⟨hc 0, hc 1, hc 2, hc 3⟩
  | 1, _ => exact ⟨hc 4, hc 5, hc 6, hc 7⟩
  | 2, _ => exact ⟨hc 8, hc 9, hc 10, hc 11⟩
  | 3, _ => exact ⟨hc 12, hc 13, hc 14, hc 15⟩
  | 4, _ => exact ⟨hc 16, hc 17, hc 18, hc 19⟩
  | 5, _ => exact ⟨hc 20, hc 21, hc 22, hc 23⟩
  | 6, _ => exact ⟨hc 24, hc 25, hc 26, hc 27⟩
  | 7, _ => exact ⟨hc 28, hc 29, hc 30, hc 31⟩
  | 8, _ => exact ⟨hc 32, hc 33, hc 34, hc 35⟩
  | 9, _ => exact ⟨hc 36, hc 37, hc 38, hc 39⟩
  | 10, _ => exact ⟨hc 40, hc 41, hc 42, hc 43⟩
  | 11, _ => exact ⟨hc 44, hc 45, hc 46, hc 47⟩

theorem shut_yes (n r : Int) (w : World) (h0 : 0 ≤ n) (h1 : n ≤ 65535) (h2 : 0 ≤ r) (h3 : r ≤ 65535) : Calls Try.prog 5 #[.int .i64 n, .int .i64 r] w fun e w' => e = .returned (.bool true) ∧ Fr [] w w' := by
  go_enter Try.func5, Try.ntmps5
  go_wp2_with fail
  have hA := acts12 (w := w.alloc (.cells #[.int .i64 4, .int .i64 0, .int .i64 0, .bool false, .int .i64 4, .int .i64 0, .int .i64 0, .bool false, .int .i64 2, .int .i64 1, .int .i64 n, .bool false, .int .i64 1, .int .i64 n, .int .i64 0, .bool false,
    .int .i64 2, .int .i64 (n + 1), .int .i64 0, .bool false, .int .i64 4, .int .i64 0, .int .i64 0, .bool false, .int .i64 1, .int .i64 1, .int .i64 0, .bool false, .int .i64 3, .int .i64 0, .int .i64 0, .bool false,
    .int .i64 2, .int .i64 (n + 1), .int .i64 r, .bool false, .int .i64 1, .int .i64 r, .int .i64 0, .bool false, .int .i64 2, .int .i64 (n + 2), .int .i64 r, .bool false, .int .i64 1, .int .i64 r, .int .i64 0, .bool false] 37))
    (kk := fun i => [4, 4, 2, 1, 2, 4, 1, 3, 2, 1, 2, 1].getD i 0) (nn := fun i => [0, 0, 1, n, n + 1, 0, 1, 0, n + 1, r, n + 2, r].getD i 0) (rr := fun i => [0, 0, n, 0, 0, 0, 0, 0, r, 0, r, 0].getD i 0) (Blk.new w 37 _)
  refine (play_any _ _ _ _ _ _ _ _ hA (by simp [maxLen])).mono ?_
  rintro e w1 ⟨rfl, f1⟩
  go_wp2_with fail
  go_ret
  exact ⟨rfl, Fr.trans ((Fr.refl _ _).alloc _) f1 (by simp)⟩

theorem shut_any (n r : Int) (w : World) : Calls Try.prog 5 #[.int .i64 n, .int .i64 r] w fun e w' => e = .returned (.bool true) ∧ Fr [] w w' := by
  by_cases h0 : n < 0
  · go_enter Try.func5, Try.ntmps5
    go_wp2_with (go_at_call 10; refine (known_any _).mono ?_; rintro e w2 ⟨rfl, f2⟩)
    go_ret
    exact ⟨rfl, f2⟩
  by_cases h1 : 65535 < n
  · go_enter Try.func5, Try.ntmps5
    go_wp2_with (go_at_call 10; refine (known_any _).mono ?_; rintro e w2 ⟨rfl, f2⟩)
    go_ret
    exact ⟨rfl, f2⟩
  by_cases h2 : r < 0
  · go_enter Try.func5, Try.ntmps5
    go_wp2_with (go_at_call 10; refine (known_any _).mono ?_; rintro e w2 ⟨rfl, f2⟩)
    go_ret
    exact ⟨rfl, f2⟩
  by_cases h3 : 65535 < r
  · go_enter Try.func5, Try.ntmps5
    go_wp2_with (go_at_call 10; refine (known_any _).mono ?_; rintro e w2 ⟨rfl, f2⟩)
    go_ret
    exact ⟨rfl, f2⟩
  exact shut_yes n r w (by omega) (by omega) (by omega) (by omega)
end Go.Proofs.Ythhageigbonoaaa
