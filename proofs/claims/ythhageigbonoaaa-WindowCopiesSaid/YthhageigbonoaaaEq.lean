import Derived.Test.YthhageigbonoaaaE
namespace Go.Proofs.Ythhageigbonoaaa
open Go.RowKit
theorem eq33 (x y : Wn) (w : World) : (Op.equalIn 10000 33 (agW x) (agW y)).run Try.prog w = .ok (x.a == y.a && (x.s == y.s && (x.m == y.m && x.l == y.l))) w := by
  have h1 : Try.prog.stoodInHeld 33 = false := by kernel_rfl
  by_cases h : x.a = y.a <;> by_cases h' : x.s = y.s <;> by_cases h'' : x.m = y.m <;> by_cases h3 : x.l = y.l <;> simp [go_sem, h1, h, h', h'', h3]
theorem neq33 (x y : Wn) (w : World) : (binOp .neq 33 (agW x) (agW y)).run Try.prog w = .ok (.bool (!(x.a == y.a && (x.s == y.s && (x.m == y.m && x.l == y.l))))) w := by
  rw [run_neq_struct, eq33]; rfl
theorem eql33 (x y : Wn) (w : World) : (binOp .eql 33 (agW x) (agW y)).run Try.prog w = .ok (.bool (x.a == y.a && (x.s == y.s && (x.m == y.m && x.l == y.l)))) w := by
  rw [run_eql_struct, eq33]; rfl
theorem neq33_same (x : Wn) (w : World) : (binOp .neq 33 (agW x) (agW x)).run Try.prog w = .ok (.bool false) w := by
  rw [neq33]; simp
theorem eqg33 (op : BinOp) (x y : Operand) (xs ys : Array Value) (w : World) : (eqGuard op 33 x y (.agg xs) (.agg ys)).run Try.prog w = .ok () w := run_eqGuard_agg w op 33 x y xs ys (by kernel_rfl)
end Go.Proofs.Ythhageigbonoaaa
