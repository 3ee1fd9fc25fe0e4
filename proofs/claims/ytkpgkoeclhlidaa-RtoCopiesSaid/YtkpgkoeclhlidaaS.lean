import Derived.Test.YtkpgkoeclhlidaaQ
namespace Go.Proofs.Ytkpgkoeclhlidaa
open Go.RowKit Go.Deep

theorem eq54 (x : Ck) (w : World) : (Op.equalIn 10000 54 (agC x) (agC x)).run Try.prog w = .ok true w := by
  have h1 : Try.prog.stoodInHeld 54 = false := by kernel_rfl
  have h2 : Try.prog.stoodInHeld 23 = false := by kernel_rfl
  simp [go_sem, h1, h2]
theorem eql54_same (x : Ck) (w : World) : (binOp .eql 54 (agC x) (agC x)).run Try.prog w = .ok (.bool true) w := by
  rw [run_eql_struct, eq54]; rfl
theorem eqg54 (op : BinOp) (x y : Operand) (xs ys : Array Value) (w : World) : (eqGuard op 54 x y (.agg xs) (.agg ys)).run Try.prog w = .ok () w := run_eqGuard_agg w op 54 x y xs ys (by kernel_rfl)

theorem same2_clk (g g' : Nat) (x : Ck) (w : World) (m : Clk w g x) (m' : Clk w g' x) (hi : Inv x) : Calls Try.prog 22 #[ptr g, ptr g'] w fun e w' => e = .returned (.bool true) ∧ Fr [] w w' := by
  obtain ⟨c0, c1, c2, c3, c4, c5, c6, c7, c8, c9, c10⟩ := cells_of m
  obtain ⟨d0, d1, d2, d3, d4, d5, d6, d7, d8, d9, d10⟩ := cells_of m'
  have e1 := eql54_same x
  have e2 := eqg54
  go_enter Try.func22, Try.ntmps22
  go_wp2_with fail
  refine (none_clk _ _ _ m hi).mono ?_
  rintro e w' ⟨rfl, rfl⟩
  go_wp2_with fail
  refine (none_clk _ _ _ m' hi).mono ?_
  rintro e w' ⟨rfl, rfl⟩
  go_wp2_with fail
  go_quiet (fail)
  go_wp2
  go_ret
  exact ⟨rfl, (Fr.refl _ _).drewN _⟩

/-- The clock behind the first k acts. -/
def runV (K N : Nat → Int) (E : Nat → Bool) : Nat → Ck → Ck
  | 0, x => x
  | k + 1, x => doesV (runV K N E k x) (K k) (N k) (E k)
theorem run_inv (K N : Nat → Int) (E : Nat → Bool) (x : Ck) (h : Inv x) : ∀ k : Nat, Inv (runV K N E k x)
  | 0 => h
  | k + 1 => does_inv (run_inv K N E x h k) (K k) (N k) (E k)
end Go.Proofs.Ytkpgkoeclhlidaa
