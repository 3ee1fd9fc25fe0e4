import Derived.Test.YtmjcblghepplhaaA
namespace Go.Proofs.Ytmjcblghepplhaa
open Go.RowKit

abbrev ptr (g : Nat) : Value := .pointer (some ⟨g, 0, none⟩)
def Mk (w : World) (g : Nat) (n : Int) (h : Bool) : Prop := Blk w g 47 #[.int .i64 n, .bool h]

theorem Mk.c0 {w : World} {g : Nat} {n : Int} {h : Bool} (m : Mk w g n h) : w.cell? ⟨g, 0, none⟩ = some (.int .i64 n) := by simpa using Blk.cell m 0
theorem Mk.c1 {w : World} {g : Nat} {n : Int} {h : Bool} (m : Mk w g n h) : w.cell? ⟨g, 1, none⟩ = some (.bool h) := by simpa using Blk.cell m 1
theorem Mk.f0 {w : World} {g : Nat} {n : Int} {h : Bool} (m : Mk w g n h) : w.frozen? ⟨g, 0, none⟩ = false := Blk.frozen m 0

theorem none_nil (w : World) : Calls Try.prog 19 #[.pointer none] w fun e w' => e = .returned (.bool true) ∧ w = w' := by
  go_enter Try.func19, Try.ntmps19
  go_wp2
  go_ret
  exact ⟨rfl, rfl⟩

theorem none_mk (g : Nat) (n : Int) (h : Bool) (w : World) (m : Mk w g n h) : Calls Try.prog 19 #[ptr g] w fun e w' => e = .returned (.bool (!h)) ∧ w = w' := by
  have c1 := m.c1
  go_enter Try.func19, Try.ntmps19
  go_wp2
  go_ret
  exact ⟨rfl, rfl⟩

theorem value_mk (g : Nat) (n : Int) (w : World) (m : Mk w g n true) : Calls Try.prog 14 #[ptr g] w fun e w' => e = .returned (.int .i64 n) ∧ w = w' := by
  have c1 := m.c1
  have c0 := m.c0
  go_enter Try.func14, Try.ntmps14
  go_wp2
  go_ret
  exact ⟨rfl, rfl⟩

theorem look_mk (g : Nat) (n seq : Int) (w : World) (m : Mk w g n true) (h0 : 0 ≤ seq) (h1 : seq < 4294967296) (h2 : 0 ≤ n) (h3 : n ≤ 4611686018427387904) :
    Calls Try.prog 13 #[ptr g, .int .u32 seq] w fun e w' => e = .returned (.tuple #[.int .i64 (nearV seq n).1, .int .i64 (nearV seq n).2]) ∧ Fr [] w w' := by
  have c1 := m.c1
  have c0 := m.c0
  go_enter Try.func13, Try.ntmps13
  go_wp2_with (first | (go_at_call 7; refine (near_walk _ _ _ h0 h1 (by omega) (by omega)).mono ?_; rintro e w1 ⟨rfl, hf⟩) | (go_at_call 19; go_in))
  go_ret2
  exact ⟨rfl, by assumption⟩
end Go.Proofs.Ytmjcblghepplhaa
