import Derived.Test.YtkpgkoeclhlidaaL
import Derived.Test.YtkpgkoeclhlidaaKit3
namespace Go.Proofs.Ytkpgkoeclhlidaa
open Go.RowKit Go.Deep

theorem known_any (w : World) : Calls Try.prog 8 #[] w fun e w' => e = .returned (.bool true) ∧ Fr [] w w' := by
  have i0 : Inv (newV 3 1 64 1) := new_inv (by omega) (by omega) (by omega) (by omega) (by omega) (by omega)
  have i1 : Inv (startV (newV 3 1 64 1) 10).1 := start_inv i0 10
  have i2 : Inv (lateV (startV (newV 3 1 64 1) 10).1 13).1 := late_inv i1 13
  have i3 : Inv (lateV (lateV (startV (newV 3 1 64 1) 10).1 13).1 19).1 := late_inv i2 19
  rw [show (startV (newV 3 1 64 1) 10).1 = ⟨3, 1, 64, 1, false, 0, 0, 3, 10, 0, true⟩ from by rfl] at i1 i2 i3
  rw [show (lateV ⟨3, 1, 64, 1, false, 0, 0, 3, 10, 0, true⟩ 13).1 = ⟨3, 1, 64, 1, false, 0, 0, 6, 13, 1, true⟩ from by rfl] at i2 i3
  rw [show (lateV ⟨3, 1, 64, 1, false, 0, 0, 6, 13, 1, true⟩ 19).1 = ⟨3, 1, 64, 1, false, 0, 0, 6, 0, 1, false⟩ from by rfl] at i3
  go_enter Try.func8, Try.ntmps8
  go_wp2_with fail
  refine (new_clk 3 1 64 1 w (by omega) (by omega) (by omega) (by omega) (by omega) (by omega)).mono ?_
  rintro e w1 ⟨g, rfl, hg, f1, m1, z1⟩
  go_wp2_with fail
  refine (start_clk _ _ 10 _ m1 i0).mono ?_
  rintro e w2 ⟨rfl, f2, m2⟩
  rw [show startV (newV 3 1 64 1) 10 = (⟨3, 1, 64, 1, false, 0, 0, 3, 10, 0, true⟩, 0) from by rfl] at m2 ⊢
  dsimp only at m2 ⊢
  go_wp2_with fail
  refine (late_clk _ _ 13 _ m2 i1).mono ?_
  rintro e w3 ⟨rfl, f3, m3⟩
  rw [show lateV ⟨3, 1, 64, 1, false, 0, 0, 3, 10, 0, true⟩ 13 = (⟨3, 1, 64, 1, false, 0, 0, 6, 13, 1, true⟩, true, 0) from by rfl] at m3 ⊢
  dsimp only at m3 ⊢
  go_wp2_with fail
  refine (wait_clk _ _ _ m3 i2).mono ?_
  rintro e w4 ⟨rfl, rfl⟩
  dsimp only
  go_wp2_with fail
  refine (late_clk _ _ 19 _ m3 i2).mono ?_
  rintro e w4 ⟨rfl, f4, m4⟩
  rw [show lateV ⟨3, 1, 64, 1, false, 0, 0, 6, 13, 1, true⟩ 19 = (⟨3, 1, 64, 1, false, 0, 0, 6, 0, 1, false⟩, false, 0) from by rfl] at m4 ⊢
  dsimp only at m4 ⊢
  go_wp2_with fail
  refine (runs_clk _ _ _ m4 i3).mono ?_
  rintro e w5 ⟨rfl, rfl⟩
  dsimp only
  go_wp2_with fail
  go_ret
  exact ⟨rfl, ((f1.trans f2 (by simp; omega)).trans f3 (by simp; omega)).trans f4 (by simp; omega)⟩
end Go.Proofs.Ytkpgkoeclhlidaa
