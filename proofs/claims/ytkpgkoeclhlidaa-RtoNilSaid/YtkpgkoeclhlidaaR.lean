import Derived.Test.YtkpgkoeclhlidaaQ
namespace Go.Proofs.Ytkpgkoeclhlidaa
open Go.RowKit Go.Deep

set_option maxHeartbeats 4000000 in
theorem nil_any (n : Int) (w : World) : Calls Try.prog 7 #[.int .i64 n] w fun e w' => e = .returned (.bool true) ∧ Fr [] w w' := by
  have i1 : Inv (newV 1 1 1 1) := new_inv (by omega) (by omega) (by omega) (by omega) (by omega) (by omega)
  have k1 := fun W => new_clk 1 1 1 1 W (by omega) (by omega) (by omega) (by omega) (by omega) (by omega)
  generalize newV 1 1 1 1 = c at *
  have K1 : Hid _ := k1
  clear k1
  go_enter Try.func7, Try.ntmps7
  go_wp2_with fail
  have mz : Clk (w.alloc (.cells #[.int .i64 0, .int .i64 0, .int .i64 0, .int .i64 0, .bool false, .int .i64 0, .int .i64 0, .int .i64 0, .int .i64 0, .int .i64 0, .bool false] 54)) w.heap.size ckz := Blk.new _ _ _
  have fz : Fr [] w (w.alloc (.cells #[.int .i64 0, .int .i64 0, .int .i64 0, .int .i64 0, .bool false, .int .i64 0, .int .i64 0, .int .i64 0, .int .i64 0, .int .i64 0, .bool false] 54)) := (Fr.refl _ _).alloc _
  generalize w.alloc (.cells #[.int .i64 0, .int .i64 0, .int .i64 0, .int .i64 0, .bool false, .int .i64 0, .int .i64 0, .int .i64 0, .int .i64 0, .int .i64 0, .bool false] 54) = w1 at *
  generalize w.heap.size = zb at *
  refine (late_nil _ _).mono ?_
  rintro e w2 ⟨rfl, rfl⟩
  go_wp2_with fail
  refine (K1.out _).mono ?_
  rintro e w2 ⟨g, rfl, hg, f2, m2, _⟩
  have mz2 : Clk w2 zb ckz := Blk.fr mz f2 (by simp)
  have F2 : Fr [] w w2 := fz.trans f2 (by simp)
  clear mz fz f2
  go_wp2_with fail
  refine (sample_nil _ _).mono ?_
  rintro e w3 ⟨rfl, rfl⟩
  go_wp2_with fail
  refine (start_z _ _ _ mz2).mono ?_
  rintro e w3 ⟨rfl, rfl⟩
  go_wp2_with fail
  refine (stop_nil _).mono ?_
  rintro e w3 ⟨rfl, rfl⟩
  go_wp2_with fail
  refine (due_z _ _ _ mz2).mono ?_
  rintro e w3 ⟨rfl, f3⟩
  have mz3 : Clk w3 zb ckz := Blk.fr mz2 f3 (by simp)
  have m3 : Clk w3 g c := Blk.fr m2 f3 (by simp)
  have F3 : Fr [] w w3 := F2.trans f3 (by simp)
  clear mz2 m2 F2 f3
  go_wp2_with fail
  refine (wait_nil _).mono ?_
  rintro e w4 ⟨rfl, rfl⟩
  go_wp2_with fail
  refine (tries_z _ _ mz3).mono ?_
  rintro e w4 ⟨rfl, rfl⟩
  go_wp2_with fail
  refine (runs_nil _).mono ?_
  rintro e w4 ⟨rfl, rfl⟩
  go_wp2_with fail
  refine (copy_z _ _ mz3).mono ?_
  rintro e w4 ⟨rfl, rfl⟩
  go_wp2_with fail
  refine (same_nil_z _ _ mz3).mono ?_
  rintro e w4 ⟨rfl, rfl⟩
  go_wp2_with fail
  refine (same_nil_clk _ _ _ m3 i1).mono ?_
  rintro e w4 ⟨rfl, rfl⟩
  go_wp2_with fail
  refine (same_clk_z _ _ _ _ m3 i1 mz3).mono ?_
  rintro e w4 ⟨rfl, rfl⟩
  go_wp2_with fail
  refine (known_any _).mono ?_
  rintro e w7 ⟨rfl, f7⟩
  go_wp2_with fail
  go_ret
  exact ⟨rfl, F3.trans f7 (by simp)⟩
end Go.Proofs.Ytkpgkoeclhlidaa
