import Derived.Test.YtmjcblghepplhaaD
namespace Go.Proofs.Ytmjcblghepplhaa
open Go.RowKit

theorem near_a : nearV 5 4294967290 = (4294967301, 0) := by decide
theorem near_b : nearV 4294967290 4294967301 = (4294967290, 0) := by decide

theorem known_any (w : World) : Calls Try.prog 10 #[] w fun e w' => e = .returned (.bool true) ∧ Fr [] w w' := by
  go_enter Try.func10, Try.ntmps10
  go_wp2_with fail
  refine (new_mk 4294967290 w (by omega) (by omega)).mono ?_
  rintro e w1 ⟨rfl, f1, m1, z1⟩
  go_wp2_with fail
  refine (take_mk _ _ 5 _ m1 (by omega) (by omega) (by omega) (by omega)).mono ?_
  rintro e w2 ⟨rfl, f2, m2⟩
  rw [near_a]
  rw [show tookV 5 4294967290 = 4294967301 from by decide] at m2
  dsimp only
  go_wp2_with fail
  refine (look_mk _ _ 4294967290 _ m2 (by omega) (by omega) (by omega) (by omega)).mono ?_
  rintro e w3 ⟨rfl, f3⟩
  rw [near_b]
  dsimp only
  have m3 : Mk w3 _ _ _ := Blk.fr m2 f3 (by simp)
  go_wp2_with fail
  refine (ext_mk 4294967301 _ (by omega) (by omega)).mono ?_
  rintro e w4 ⟨rfl, rfl⟩
  go_wp2_with fail
  refine (value_mk _ _ _ m3).mono ?_
  rintro e w4 ⟨rfl, rfl⟩
  go_wp2
  go_ret
  refine ⟨rfl, ?_⟩
  exact (f1.trans f2 (by simp)).trans f3 (by simp)

/-! SneNear -/
theorem sneNear_any (seq to : Int) (w : World) (h0 : 0 ≤ seq) (h1 : seq < 4294967296) (h2 : -9223372036854775808 ≤ to) (h3 : to ≤ 9223372036854775807) :
    Calls Try.prog 3 #[.int .u32 seq, .int .i64 to] w fun e w' => e = .returned (.bool true) ∧ Fr [] w w' := by
  by_cases hto : to < 0 ∨ 4611686018427387904 < to
  · go_enter Try.func3, Try.ntmps3
    go_wp2_with fail
    refine (near_walk _ _ _ h0 h1 h2 h3).mono ?_
    rintro e w1 ⟨rfl, f1⟩
    go_wp2_with fail
    refine (ref_no _ _ _ hto).mono ?_
    rintro e w2 ⟨rfl, rfl⟩
    go_wp2_with fail
    refine (ext_mk _ _ h2 h3).mono ?_
    rintro e w2 ⟨rfl, rfl⟩
    rw [if_pos hto, if_pos hto]
    generalize (nearV seq to).1 = x at *
    generalize (nearV seq to).2 = y at *
    rcases hto with hto | hto
    · go_wp2_with (go_at_call 10; refine (known_any _).mono ?_; rintro e w2 ⟨rfl, f2⟩)
      go_ret
      exact ⟨rfl, f1.trans f2 (by simp)⟩
    · have hto' : ¬ to < 0 := by omega
      go_wp2_with (go_at_call 10; refine (known_any _).mono ?_; rintro e w2 ⟨rfl, f2⟩)
      go_ret
      exact ⟨rfl, f1.trans f2 (by simp)⟩
  · go_enter Try.func3, Try.ntmps3
    go_wp2_with fail
    refine (near_walk _ _ _ h0 h1 h2 h3).mono ?_
    rintro e w1 ⟨rfl, f1⟩
    go_wp2_with fail
    refine (ref_yes _ _ _ h0 h1 (by omega) (by omega)).mono ?_
    rintro e w2 ⟨rfl, rfl⟩
    go_wp2_with fail
    refine (ext_mk _ _ h2 h3).mono ?_
    rintro e w2 ⟨rfl, rfl⟩
    rw [if_neg hto, if_neg hto]
    generalize (nearV seq to).1 = x at *
    generalize (nearV seq to).2 = y at *
    have hto1 : ¬ to < 0 := by omega
    have hto2 : ¬ 4611686018427387904 < to := by omega
    clear hto
    go_wp2_with (go_at_call 10; refine (known_any _).mono ?_; rintro e w2 ⟨rfl, f2⟩)
    go_ret
    exact ⟨rfl, f1.trans f2 (by simp)⟩
end Go.Proofs.Ytmjcblghepplhaa
