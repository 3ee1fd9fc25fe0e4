import Derived.Test.YtdlmhadcaagokaaH
import Derived.Deep.DeepCutAuto
import Derived.Lib.SliceRun
import Derived.Laws.Append
namespace Go.Proofs.Ytdlmhadcaagokaa
open Go.RowKit

abbrev agp (a : Int) (v : Value) : Value := .agg #[.int .i64 a, v]
abbrev bxp (a : Int) (v : Value) : Obj := .cells #[.int .i64 a, v] 67

theorem none_nil (w : World) : Calls Try.prog 26 #[.pointer none] w fun e w' => e = .returned (.bool true) ∧ w = w' := by
  go_enter Try.func26, Try.ntmps26
  go_wp2
  go_ret
  exact ⟨rfl, rfl⟩
theorem none_z (g : Nat) (w : World) (m : Hz w g) : Calls Try.prog 26 #[ptr g] w fun e w' => e = .returned (.bool true) ∧ w = w' := by
  have c4 : w.cell? ⟨g, 4, none⟩ = some (.bool false) := by simpa using Blk.cell m 4
  go_enter Try.func26, Try.ntmps26
  go_wp2
  go_ret
  exact ⟨rfl, rfl⟩
theorem none_hp {g : Nat} {w : World} (c4 : w.cell? ⟨g, 4, none⟩ = some (.bool true)) : Calls Try.prog 26 #[ptr g] w fun e w' => e = .returned (.bool false) ∧ w = w' := by
  go_enter Try.func26, Try.ntmps26
  go_wp2
  go_ret
  exact ⟨rfl, rfl⟩
theorem new_no (m : Int) (w : World) (h : m < 0 ∨ 64 < m) : Calls Try.prog 10 #[.int .i64 m] w fun e w' => e = .returned (.tuple #[.pointer none, .int .i64 2]) ∧ w = w' := by
  by_cases h0 : m < 0
  · go_enter Try.func10, Try.ntmps10
    go_wp2
    go_ret2
    exact ⟨rfl, rfl⟩
  · have h1 : 64 < m := by omega
    clear h
    go_enter Try.func10, Try.ntmps10
    go_wp2
    go_ret2
    exact ⟨rfl, rfl⟩
theorem new_yes (m : Int) (w : World) (h0 : 0 ≤ m) (h1 : m ≤ 64) :
    Calls Try.prog 10 #[.int .i64 m] w fun e w' => e = .returned (.tuple #[ptr w.heap.size, .int .i64 0]) ∧ w.alloc (.cells #[.int .i64 m, .int .i64 0, .slice none 0 0, .pointer none, .bool true] 58) = w' := by
  go_enter Try.func10, Try.ntmps10
  go_wp2
  go_ret2
  exact ⟨rfl, rfl⟩
theorem new_hp (S : Nat → Prop) (m : Int) (w : World) (h0 : 0 ≤ m) (h1 : m ≤ 64) (hp : ∀ b, S b → b < w.heap.size) :
    Calls Try.prog 10 #[.int .i64 m] w fun e w' => e = .returned (.tuple #[ptr w.heap.size, .int .i64 0]) ∧ Fr [] w w' ∧ HP S w' w.heap.size (.slice none 0 0) (newV m) ∧ w'.heap.size = w.heap.size + 1 :=
  (new_yes m w h0 h1).mono fun _ _ ⟨he, hw⟩ => by
    subst hw
    refine ⟨he, (Fr.refl _ _).alloc _, ⟨.pointer none, [], Blk.new _ _ _, ⟨World.ownsRow_nil _ _ _ _, by simp⟩, rfl, .inl ⟨rfl, rfl⟩, fun b hb => by have := hp b hb; simp; omega, fun hs => by have := hp _ hs; omega, by simp [Value.ownBlock]⟩, by simp⟩
theorem behind_any (a : Int) (A : Option Addr) (n c : Nat) (w : World) (h0 : 0 ≤ a) (h1 : a ≤ 4611686018427387968) (hn : n ≤ 1000000) :
    Calls Try.prog 28 #[agp a (.slice A n c)] w fun e w' => e = .returned (.int .i64 (a + n)) ∧ w.alloc (bxp a (.slice A n c)) = w' := by
  go_enter Try.func28, Try.ntmps28
  go_wp2
  go_ret
  exact ⟨rfl, rfl⟩
theorem behind_fr (a : Int) (A : Option Addr) (n c : Nat) (w : World) (h0 : 0 ≤ a) (h1 : a ≤ 4611686018427387968) (hn : n ≤ 1000000) :
    Calls Try.prog 28 #[agp a (.slice A n c)] w fun e w' => e = .returned (.int .i64 (a + n)) ∧ Fr [] w w' :=
  (behind_any a A n c w h0 h1 hn).mono fun _ _ ⟨he, hw⟩ => ⟨he, hw ▸ (Fr.refl _ _).alloc _⟩
theorem next_hp {S : Nat → Prop} {g : Nat} {kv : Value} {h : Hp} {w : World} (m : HP S w g kv h) : Calls Try.prog 17 #[ptr g] w fun e w' => e = .returned (.int .i64 h.next) ∧ w = w' := by
  obtain ⟨ev, L, m⟩ := m
  obtain ⟨c0, c1, c2, c3, c4⟩ := m.cells
  go_enter Try.func17, Try.ntmps17
  go_wp2_with (go_at_call 26; refine (none_hp c4).mono ?_; rintro e w' ⟨rfl, rfl⟩)
  go_ret
  exact ⟨rfl, rfl⟩
def isFin (h : Hp) : Bool := match h.fin with | none => false | some a => a == h.next
theorem done_hp {S : Nat → Prop} {g : Nat} {kv : Value} {h : Hp} {w : World} (m : HP S w g kv h) : Calls Try.prog 19 #[ptr g] w fun e w' => e = .returned (.bool (isFin h)) ∧ Fr [] w w' := by
  obtain ⟨ev, L, m⟩ := m
  obtain ⟨c0, c1, c2, c3, c4⟩ := m.cells
  rcases m.fin with ⟨h1, rfl⟩ | ⟨a, b, h1, rfl, h3, h4⟩
  · have e : isFin h = false := by unfold isFin; rw [h1]
    rw [e]
    have H := Lib.hid h1
    clear e h1
    go_enter Try.func19, Try.ntmps19
    go_wp2_with fail
    go_quiet ((go_at_call 26; exact quiet_left (none_hp c4)))
    go_wp2
    go_ret
    exact ⟨rfl, (Fr.refl _ _).drewN _⟩
  · have e : isFin h = (a == h.next) := by unfold isFin; rw [h1]
    rw [e]
    have H := Lib.hid h1
    clear e h1
    go_enter Try.func19, Try.ntmps19
    go_wp2_with fail
    go_quiet ((go_at_call 26; exact quiet_left (none_hp c4)))
    go_wp2
    go_ret
    exact ⟨rfl, (Fr.refl _ _).drewN _⟩
end Go.Proofs.Ytdlmhadcaagokaa
