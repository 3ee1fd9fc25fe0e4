import Derived.Test.YtmjcblghepplhaaE
namespace Go.Proofs.Ytmjcblghepplhaa
open Go.RowKit

theorem look_nil (seq : Int) (w : World) : Calls Try.prog 13 #[.pointer none, .int .u32 seq] w fun e w' => e = .returned (.tuple #[.int .i64 0, .int .i64 1]) ∧ w = w' := by
  go_enter Try.func13, Try.ntmps13
  go_wp2
  go_ret2
  exact ⟨rfl, rfl⟩
theorem value_nil (w : World) : Calls Try.prog 14 #[.pointer none] w fun e w' => e = .returned (.int .i64 0) ∧ w = w' := by
  go_enter Try.func14, Try.ntmps14
  go_wp2
  go_ret
  exact ⟨rfl, rfl⟩
theorem take_no (g : Nat) (n seq : Int) (w : World) (m : Mk w g n false) : Calls Try.prog 16 #[ptr g, .int .u32 seq] w fun e w' => e = .returned (.tuple #[.int .i64 0, .int .i64 1]) ∧ w = w' := by
  have hmf := makeFunc_run
  have c1 := m.c1
  have c0 := m.c0
  go_enter Try.func16, Try.ntmps16
  go_wp2
  go_ret2
  exact ⟨rfl, rfl⟩
theorem same_nil_no (g : Nat) (n : Int) (w : World) (m : Mk w g n false) : Calls Try.prog 15 #[.pointer none, ptr g] w fun e w' => e = .returned (.bool true) ∧ w = w' := by
  have c1 := m.c1
  go_enter Try.func15, Try.ntmps15
  go_wp2
  go_ret
  exact ⟨rfl, rfl⟩
theorem same_mk_no (g g' : Nat) (n n' : Int) (w : World) (m : Mk w g n true) (m' : Mk w g' n' false) : Calls Try.prog 15 #[ptr g, ptr g'] w fun e w' => e = .returned (.bool false) ∧ w = w' := by
  have c1 := m.c1
  have c1' := m'.c1
  go_enter Try.func15, Try.ntmps15
  go_wp2
  go_ret
  exact ⟨rfl, rfl⟩
theorem same_nil_mk (g : Nat) (n : Int) (w : World) (m : Mk w g n true) : Calls Try.prog 15 #[.pointer none, ptr g] w fun e w' => e = .returned (.bool false) ∧ w = w' := by
  have c1 := m.c1
  go_enter Try.func15, Try.ntmps15
  go_wp2
  go_ret
  exact ⟨rfl, rfl⟩

theorem took_max (seq n : Int) (h0 : 0 ≤ seq) (h1 : seq < 4294967296) (h2 : 0 ≤ n) (h3 : n ≤ 4611686018427387904) : tookV seq n = max n (nearV seq n).1 := by
  have := near_bd seq n h0 h1 h2 h3
  unfold tookV
  split <;> omega

theorem sneBounds_yes (b seq : Int) (w : World) (h0 : 0 ≤ seq) (h1 : seq < 4294967296) (h2 : 0 ≤ b) (h3 : b ≤ 8589934592) :
    Calls Try.prog 6 #[.int .i64 b, .int .u32 seq] w fun e w' => e = .returned (.bool true) ∧ Fr [] w w' := by
  go_enter Try.func6, Try.ntmps6
  go_wp2_with fail
  refine (of_mk _ w (by omega) (by omega)).mono ?_
  rintro e w1 ⟨rfl, f1, m1, z1⟩
  go_wp2_with fail
  refine (ref_yes _ _ _ h0 h1 (by omega) (by omega)).mono ?_
  rintro e w2 ⟨rfl, rfl⟩
  go_wp2_with fail
  refine (take_mk _ _ _ _ m1 h0 h1 (by omega) (by omega)).mono ?_
  rintro e w2 ⟨rfl, f2, m2⟩
  have tm : Hid _ := (took_max seq (4611686018427387904 - b) h0 h1 (by omega) (by omega))
  generalize (nearV seq (4611686018427387904 - b)).1 = x at *
  generalize (nearV seq (4611686018427387904 - b)).2 = y at *
  rw [tm.out] at m2
  clear tm
  go_wp2_with fail
  refine (value_mk _ _ _ m2).mono ?_
  rintro e w3 ⟨rfl, rfl⟩
  go_wp2_with fail
  have mz : Mk (w2.alloc (Obj.cells #[Value.int IntKind.i64 0, Value.bool false] 47)) w2.heap.size 0 false := Blk.new _ _ _
  have m3 : Mk (w2.alloc (Obj.cells #[Value.int IntKind.i64 0, Value.bool false] 47)) w.heap.size _ true := Blk.alloc m2 _
  have f3 : Fr [] w (w2.alloc (Obj.cells #[Value.int IntKind.i64 0, Value.bool false] 47)) := (f1.trans f2 (by simp)).alloc _
  clear m1 m2 f1 f2 z1
  generalize w2.alloc (Obj.cells #[Value.int IntKind.i64 0, Value.bool false] 47) = w3 at *
  generalize w2.heap.size = zb at *
  refine (look_nil _ _).mono ?_
  rintro e w4 ⟨rfl, rfl⟩
  go_wp2_with fail
  refine (take_no _ _ _ _ mz).mono ?_
  rintro e w4 ⟨rfl, rfl⟩
  go_wp2_with fail
  refine (of_no _ _ (by omega)).mono ?_
  rintro e w4 ⟨rfl, rfl⟩
  go_wp2_with fail
  refine (of_no _ _ (by omega)).mono ?_
  rintro e w4 ⟨rfl, rfl⟩
  go_wp2_with fail
  refine (value_nil _).mono ?_
  rintro e w4 ⟨rfl, rfl⟩
  go_wp2_with fail
  refine (copy_no _ _ _ mz).mono ?_
  rintro e w4 ⟨rfl, rfl⟩
  go_wp2_with fail
  refine (same_nil_no _ _ _ mz).mono ?_
  rintro e w4 ⟨rfl, rfl⟩
  go_wp2_with fail
  refine (same_mk_no _ _ _ _ _ m3 mz).mono ?_
  rintro e w4 ⟨rfl, rfl⟩
  go_wp2_with fail
  refine (same_nil_mk _ _ _ m3).mono ?_
  rintro e w4 ⟨rfl, rfl⟩
  go_wp2_with fail
  refine (known_any _).mono ?_
  rintro e w4 ⟨rfl, f4⟩
  go_wp2_with fail
  go_ret
  exact ⟨rfl, f3.trans f4 (by simp)⟩

theorem sneBounds_any (b seq : Int) (w : World) (h0 : 0 ≤ seq) (h1 : seq < 4294967296) :
    Calls Try.prog 6 #[.int .i64 b, .int .u32 seq] w fun e w' => e = .returned (.bool true) ∧ Fr [] w w' := by
  by_cases h2 : b < 0
  · go_enter Try.func6, Try.ntmps6
    go_wp2_with (go_at_call 10; refine (known_any _).mono ?_; rintro e w2 ⟨rfl, f2⟩)
    go_ret
    exact ⟨rfl, f2⟩
  by_cases h3 : 8589934592 < b
  · go_enter Try.func6, Try.ntmps6
    go_wp2_with (go_at_call 10; refine (known_any _).mono ?_; rintro e w2 ⟨rfl, f2⟩)
    go_ret
    exact ⟨rfl, f2⟩
  exact sneBounds_yes b seq w h0 h1 (by omega) (by omega)
end Go.Proofs.Ytmjcblghepplhaa
