import Derived.Test.YthhageigbonoaaaProg
import Derived.Test.YthhageigbonoaaaKit
namespace Go.Proofs.Ythhageigbonoaaa
open Go.RowKit

theorem makeFunc_run (fn : Fn) (first cap : Array Value) (w : World) : (Instr.makeFunc fn first cap).run Try.prog w = .ok (.func fn first cap) w := rfl
abbrev ptr (g : Nat) : Value := .pointer (some ⟨g, 0, none⟩)

/-- The places of a window. -/
structure Wn where
  a : Int
  s : Int
  m : Int
  l : Int
def Wn.cells (x : Wn) : Array Value := #[.int .i64 x.a, .int .i64 x.s, .int .i64 x.m, .int .i64 x.l]
def Win (w : World) (g : Nat) (x : Wn) (h : Bool) : Prop := Blk w g 46 #[.int .i64 x.a, .int .i64 x.s, .int .i64 x.m, .int .i64 x.l, .bool h]

section
variable {w : World} {g : Nat} {x : Wn} {h : Bool} (m : Win w g x h)
include m
theorem Win.c0 : w.cell? ⟨g, 0, none⟩ = some (.int .i64 x.a) := by simpa using Blk.cell m 0
theorem Win.c1 : w.cell? ⟨g, 1, none⟩ = some (.int .i64 x.s) := by simpa using Blk.cell m 1
theorem Win.c2 : w.cell? ⟨g, 2, none⟩ = some (.int .i64 x.m) := by simpa using Blk.cell m 2
theorem Win.c3 : w.cell? ⟨g, 3, none⟩ = some (.int .i64 x.l) := by simpa using Blk.cell m 3
theorem Win.c4 : w.cell? ⟨g, 4, none⟩ = some (.bool h) := by simpa using Blk.cell m 4
theorem Win.fz (i : Nat) : w.frozen? ⟨g, i, none⟩ = false := Blk.frozen m i
end

theorem raise_one (g j v : Nat) (p n : Int) (cs : Array Value) (w : World) (hB : Blk w g 46 cs) (hp : cs[j]? = some (.int .i64 p)) (hv : w.cell? ⟨v, 0, none⟩ = some (.pointer (some ⟨g, j, none⟩))) :
    Calls Try.prog 29 #[.int .i64 n, .pointer (some ⟨v, 0, none⟩)] w fun e w' => e = .returned (.tuple #[]) ∧ Fr [g] w w' ∧ Blk w' g 46 (cs.setIfInBounds j (.int .i64 (max p n))) := by
  have hc : w.cell? ⟨g, j, none⟩ = some (.int .i64 p) := by rw [← hp]; exact Blk.cell hB j
  have hf : w.frozen? ⟨g, j, none⟩ = false := Blk.frozen hB j
  go_enter Try.func29, Try.ntmps29
  go_wp2_with fail
  go_region
  all_goals go_wp2
  all_goals go_end0
  all_goals exact ⟨rfl, Fr.setCell (Fr.refl _ _).drew (by simp) _, Blk.set_ (Blk.drew hB) j _⟩

theorem rise_one (g j b : Nat) (p n : Int) (cs : Array Value) (w : World) (hB : Blk w g 46 cs) (hp : cs[j]? = some (.int .i64 p)) (hb : w.cell? ⟨b, 0, none⟩ = some (.int .i64 n)) :
    Calls Try.prog 28 #[.pointer (some ⟨g, j, none⟩), .slice (some ⟨b, 0, none⟩) 1 1] w fun e w' => e = .returned (.tuple #[]) ∧ Fr [g] w w' ∧ Blk w' g 46 (cs.setIfInBounds j (.int .i64 (max p n))) := by
  have hmf := makeFunc_run
  have hc : w.cell? ⟨g, j, none⟩ = some (.int .i64 p) := by rw [← hp]; exact Blk.cell hB j
  have hf : w.frozen? ⟨g, j, none⟩ = false := Blk.frozen hB j
  have hlt := hB.lt
  go_enter Try.func28, Try.ntmps28
  have hbl : b < w.heap.size := World.block_lt_of_cell? w _ hb
  go_wp2_with fail
  refine wp_loop_rounds 2 ?_
  rw [rounds_succ]
  go_wp2_with fail
  have hA : Blk (w.alloc (.cells #[.pointer (some ⟨g, j, none⟩)] 58)) g 46 cs := Blk.alloc hB _
  refine (raise_one g j _ p n cs _ hA hp (by simp [go_sem])).mono ?_
  rintro e w1 ⟨rfl, f1, b1⟩
  have f2 : Fr [g] w w1 := ((Fr.refl _ _).alloc _).trans f1 (by simp)
  go_wp2_with fail
  rw [rounds_succ]
  go_wp2_with fail
  go_end0
  exact ⟨rfl, f2, b1⟩
end Go.Proofs.Ythhageigbonoaaa
