import Derived.Test.YtmjcblghepplhaaB
namespace Go.Proofs.Ytmjcblghepplhaa
open Go.RowKit

theorem near_bd (seq n : Int) (h0 : 0 ≤ seq) (h1 : seq < 4294967296) (h2 : 0 ≤ n) (h3 : n ≤ 4611686018427387904) :
    0 ≤ (nearV seq n).1 ∧ (nearV seq n).1 ≤ 4611686018427387904 ∧ ((nearV seq n).2 = 0 ∨ ((nearV seq n).2 = 210 ∧ (nearV seq n).1 = 0)) := by
  unfold nearV
  dsimp only
  (repeat' split) <;> dsimp only <;> omega

/-- The mark behind a Take. -/
def tookV (seq n : Int) : Int := if (nearV seq n).2 = 0 then max n (nearV seq n).1 else n

theorem take_mk (g : Nat) (n seq : Int) (w : World) (m : Mk w g n true) (h0 : 0 ≤ seq) (h1 : seq < 4294967296) (h2 : 0 ≤ n) (h3 : n ≤ 4611686018427387904) :
    Calls Try.prog 16 #[ptr g, .int .u32 seq] w fun e w' => e = .returned (.tuple #[.int .i64 (nearV seq n).1, .int .i64 (nearV seq n).2]) ∧ Fr [g] w w' ∧ Mk w' g (tookV seq n) true := by
  have hmf := makeFunc_run
  have hb := near_bd seq n h0 h1 h2 h3
  unfold tookV
  have hlook := look_mk g n seq w m h0 h1 h2 h3
  generalize (nearV seq n).1 = x at *
  generalize (nearV seq n).2 = y at *
  have c1 := m.c1
  have c0 := m.c0
  go_enter Try.func16, Try.ntmps16
  go_wp2_with fail
  refine hlook.mono ?_
  rintro e w1 ⟨rfl, hf⟩
  have m1 : Mk w1 g n true := Blk.fr m hf (by simp)
  have d0 := m1.c0
  have df := m1.f0
  rcases hb with ⟨hx0, hx1, rfl | ⟨rfl, rfl⟩⟩
  · go_wp2
    go_ret2
    refine ⟨rfl, ?_, ?_⟩
    · exact Fr.setCell (hf.mono (by simp)) (by simp) _
    · have := Blk.set_ m1 0 (.int .i64 (max n x))
      simpa [Mk] using this
  · go_wp2
    go_ret2
    exact ⟨rfl, hf.mono (by simp), m1⟩

theorem new_mk (isn : Int) (w : World) (h0 : 0 ≤ isn) (h1 : isn < 4294967296) :
    Calls Try.prog 11 #[.int .u32 isn] w fun e w' => e = .returned (ptr w.heap.size) ∧ Fr [] w w' ∧ Mk w' w.heap.size isn true ∧ w.heap.size < w'.heap.size := by
  go_enter Try.func11, Try.ntmps11
  go_wp2
  go_ret
  exact ⟨rfl, (Fr.refl _ _).alloc _, Blk.new _ _ _, by simp⟩

theorem of_mk (n : Int) (w : World) (h0 : 0 ≤ n) (h1 : n ≤ 4611686018427387904) :
    Calls Try.prog 17 #[.int .i64 n] w fun e w' => e = .returned (.tuple #[ptr w.heap.size, .int .i64 0]) ∧ Fr [] w w' ∧ Mk w' w.heap.size n true ∧ w.heap.size < w'.heap.size := by
  go_enter Try.func17, Try.ntmps17
  go_wp2
  go_ret2
  exact ⟨rfl, (Fr.refl _ _).alloc _, Blk.new _ _ _, by simp⟩

theorem of_no (n : Int) (w : World) (h0 : n < 0 ∨ 4611686018427387904 < n) :
    Calls Try.prog 17 #[.int .i64 n] w fun e w' => e = .returned (.tuple #[.pointer none, .int .i64 2]) ∧ w = w' := by
  rcases h0 with h0 | h0
  · go_enter Try.func17, Try.ntmps17
    go_wp2
    go_ret2
    exact ⟨rfl, rfl⟩
  · have h1 : ¬ n < 0 := by omega
    go_enter Try.func17, Try.ntmps17
    go_wp2
    go_ret2
    exact ⟨rfl, rfl⟩

theorem ext_mk (n : Int) (w : World) (h0 : -9223372036854775808 ≤ n) (h1 : n ≤ 9223372036854775807) :
    Calls Try.prog 9 #[.int .i64 n] w fun e w' => e = .returned (.tuple #[.int .u32 (if n < 0 ∨ 4611686018427387904 < n then 0 else n / 4294967296), .int .i64 (if n < 0 ∨ 4611686018427387904 < n then 2 else 0)]) ∧ w = w' := by
  go_enter Try.func9, Try.ntmps9
  go_wp2
  all_goals go_ret2
  all_goals refine ⟨ret2_eq ?_ ?_, rfl⟩
  all_goals first | rfl | ((repeat' split) <;> omega)

theorem copy_mk (g : Nat) (n : Int) (w : World) (m : Mk w g n true) :
    Calls Try.prog 12 #[ptr g] w fun e w' => e = .returned (ptr w.heap.size) ∧ Fr [] w w' ∧ Mk w' w.heap.size n true ∧ w.heap.size < w'.heap.size := by
  have c1 := m.c1
  have c0 := m.c0
  go_enter Try.func12, Try.ntmps12
  go_wp2
  go_ret
  exact ⟨rfl, (Fr.refl _ _).alloc _, Blk.new _ _ _, by simp⟩

theorem copy_no (g : Nat) (n : Int) (w : World) (m : Mk w g n false) :
    Calls Try.prog 12 #[ptr g] w fun e w' => e = .returned (.pointer none) ∧ w = w' := by
  have c1 := m.c1
  have c0 := m.c0
  go_enter Try.func12, Try.ntmps12
  go_wp2
  go_ret
  exact ⟨rfl, rfl⟩

theorem eql45 (n n' : Int) (w : World) : (binOp .eql 45 (.agg #[.int .i64 n]) (.agg #[.int .i64 n'])).run Try.prog w = .ok (.bool (n == n')) w := by
  have h1 : Try.prog.stoodInHeld 45 = false := by kernel_rfl
  by_cases h : n = n' <;> simp [go_sem, h1, h]
theorem eqg45 (x y : Operand) (xs ys : Array Value) (w : World) : (eqGuard .eql 45 x y (.agg xs) (.agg ys)).run Try.prog w = .ok () w := run_eqGuard_agg w .eql 45 x y xs ys (by kernel_rfl)
theorem same_mk (g g' : Nat) (n n' : Int) (w : World) (m : Mk w g n true) (m' : Mk w g' n' true) :
    Calls Try.prog 15 #[ptr g, ptr g'] w fun e w' => e = .returned (.bool (n == n')) ∧ ∃ k, w' = w.drewN k := by
  have c1 := m.c1
  have c0 := m.c0
  have c1' := m'.c1
  have c0' := m'.c0
  have q1 := eql45
  have q2 := eqg45
  go_enter Try.func15, Try.ntmps15
  go_wp2
  go_quiet (fail)
  go_wp2
  go_ret
  exact ⟨rfl, _, rfl⟩
end Go.Proofs.Ytmjcblghepplhaa
