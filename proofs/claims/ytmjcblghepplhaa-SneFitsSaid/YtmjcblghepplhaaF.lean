import Derived.Test.YtmjcblghepplhaaE
namespace Go.Proofs.Ytmjcblghepplhaa
open Go.RowKit

theorem near_fit (seq to : Int) (h0 : 0 ≤ seq) (h1 : seq < 4294967296) (h2 : 0 ≤ to) (h3 : to ≤ 2305843009213693952) :
    ∃ n, nearV seq to = (n, 0) ∧ n % 4294967296 = seq ∧ 0 ≤ n ∧ (n - to ≤ 2147483648 ∨ n < 4294967296) ∧ to - n < 2147483648 ∧ n ≤ 4611686018427387904 := by
  unfold nearV
  dsimp only
  (repeat' split) <;> first | (refine ⟨_, rfl, ?_⟩; omega) | (exfalso; omega)

theorem near_far (to far : Int) (h2 : 0 ≤ to) (h3 : to ≤ 2305843009213693952) (h4 : -2147483648 < far) (h5 : far ≤ 2147483648) (h6 : 0 ≤ to + far) :
    nearV ((to + far) % 4294967296) to = (to + far, 0) := by
  unfold nearV
  dsimp only
  (repeat' split) <;> first | (exfalso; omega) | (refine Prod.ext ?_ rfl; dsimp only; omega)

theorem sneFits_no (to far seq : Int) (w : World) (hg : to < 0 ∨ 2305843009213693952 < to ∨ far ≤ -2147483648 ∨ 2147483648 < far) :
    Calls Try.prog 4 #[.int .i64 to, .int .i64 far, .int .u32 seq] w fun e w' => e = .returned (.bool true) ∧ Fr [] w w' := by
  by_cases a : to < 0
  · go_enter Try.func4, Try.ntmps4
    go_wp2_with (go_at_call 10; refine (known_any _).mono ?_; rintro e w2 ⟨rfl, f2⟩)
    go_ret
    exact ⟨rfl, f2⟩
  by_cases b : 2305843009213693952 < to
  · go_enter Try.func4, Try.ntmps4
    go_wp2_with (go_at_call 10; refine (known_any _).mono ?_; rintro e w2 ⟨rfl, f2⟩)
    go_ret
    exact ⟨rfl, f2⟩
  by_cases c : far ≤ -2147483648
  · go_enter Try.func4, Try.ntmps4
    go_wp2_with (go_at_call 10; refine (known_any _).mono ?_; rintro e w2 ⟨rfl, f2⟩)
    go_ret
    exact ⟨rfl, f2⟩
  have d : 2147483648 < far := by omega
  clear hg
  go_enter Try.func4, Try.ntmps4
  go_wp2_with (go_at_call 10; refine (known_any _).mono ?_; rintro e w2 ⟨rfl, f2⟩)
  go_ret
  exact ⟨rfl, f2⟩

set_option maxHeartbeats 1000000 in
theorem sneFits_yes (to far seq : Int) (w : World) (h0 : 0 ≤ seq) (h1 : seq < 4294967296) (g1 : 0 ≤ to) (g2 : to ≤ 2305843009213693952) (g3 : -2147483648 < far) (g4 : far ≤ 2147483648) :
    Calls Try.prog 4 #[.int .i64 to, .int .i64 far, .int .u32 seq] w fun e w' => e = .returned (.bool true) ∧ Fr [] w w' := by
  obtain ⟨n, hn, n1, n2, n3, n4, n5⟩ := near_fit seq to h0 h1 g1 g2
  have N1 : (n % 4294967296 != seq) = false := by rw [n1]; simp
  clear n1
  by_cases h6 : 0 ≤ to + far
  · have hf := near_far to far g1 g2 g3 g4 h6
    by_cases n6 : 2147483648 < n - to
    · have n7 : n < 4294967296 := by omega
      clear n3
      go_enter Try.func4, Try.ntmps4
      go_wp2_with fail
      refine (near_walk _ _ _ h0 h1 (by omega) (by omega)).mono ?_
      rintro e w1 ⟨rfl, f1⟩
      rw [hn]
      dsimp only
      clear hn
      go_wp2_with fail
      refine (near_walk _ _ _ (by omega) (by omega) (by omega) (by omega)).mono ?_
      rintro e w2 ⟨rfl, f2⟩
      rw [hf]
      dsimp only
      clear hf
      go_wp2_with (go_at_call 10; refine (known_any _).mono ?_; rintro e w3 ⟨rfl, f3⟩)
      go_ret
      exact ⟨rfl, (f1.trans f2 (by simp)).trans f3 (by simp)⟩
    · clear n3
      go_enter Try.func4, Try.ntmps4
      go_wp2_with fail
      refine (near_walk _ _ _ h0 h1 (by omega) (by omega)).mono ?_
      rintro e w1 ⟨rfl, f1⟩
      rw [hn]
      dsimp only
      clear hn
      go_wp2_with fail
      refine (near_walk _ _ _ (by omega) (by omega) (by omega) (by omega)).mono ?_
      rintro e w2 ⟨rfl, f2⟩
      rw [hf]
      dsimp only
      clear hf
      go_wp2_with (go_at_call 10; refine (known_any _).mono ?_; rintro e w3 ⟨rfl, f3⟩)
      go_ret
      exact ⟨rfl, (f1.trans f2 (by simp)).trans f3 (by simp)⟩
  · by_cases n6 : 2147483648 < n - to
    · have n7 : n < 4294967296 := by omega
      clear n3
      go_enter Try.func4, Try.ntmps4
      go_wp2_with fail
      refine (near_walk _ _ _ h0 h1 (by omega) (by omega)).mono ?_
      rintro e w1 ⟨rfl, f1⟩
      rw [hn]
      dsimp only
      clear hn
      go_wp2_with (go_at_call 10; refine (known_any _).mono ?_; rintro e w3 ⟨rfl, f3⟩)
      go_ret
      exact ⟨rfl, f1.trans f3 (by simp)⟩
    · clear n3
      go_enter Try.func4, Try.ntmps4
      go_wp2_with fail
      refine (near_walk _ _ _ h0 h1 (by omega) (by omega)).mono ?_
      rintro e w1 ⟨rfl, f1⟩
      rw [hn]
      dsimp only
      clear hn
      go_wp2_with (go_at_call 10; refine (known_any _).mono ?_; rintro e w3 ⟨rfl, f3⟩)
      go_ret
      exact ⟨rfl, f1.trans f3 (by simp)⟩

theorem sneFits_any (to far seq : Int) (w : World) (h0 : 0 ≤ seq) (h1 : seq < 4294967296) :
    Calls Try.prog 4 #[.int .i64 to, .int .i64 far, .int .u32 seq] w fun e w' => e = .returned (.bool true) ∧ Fr [] w w' := by
  by_cases hg : to < 0 ∨ 2305843009213693952 < to ∨ far ≤ -2147483648 ∨ 2147483648 < far
  · exact sneFits_no to far seq w hg
  · exact sneFits_yes to far seq w h0 h1 (by omega) (by omega) (by omega) (by omega)
end Go.Proofs.Ytmjcblghepplhaa
