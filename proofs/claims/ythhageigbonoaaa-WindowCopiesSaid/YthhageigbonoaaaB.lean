import Derived.Test.YthhageigbonoaaaA
namespace Go.Proofs.Ythhageigbonoaaa
open Go.RowKit

def roomV (x : Wn) : Int := max 0 (x.l - x.s)
def takeV (x : Wn) (n : Int) : Wn × Int × Int := if n < 0 then (x, 0, 2) else if roomV x < n then (x, 0, 231) else (⟨x.a, x.s + n, max x.m (x.s + n), x.l⟩, x.s, 0)
def ackV (x : Wn) (u r : Int) : Wn × Int × Int := if u < 0 ∨ r < 0 ∨ 65535 < r then (x, 0, 2) else if x.m < u then (x, 0, 230) else if u < x.a then (x, 0, 0) else (⟨max x.a u, max x.s u, x.m, max x.l (u + r)⟩, u - x.a, 0)
def backV (x : Wn) : Wn := ⟨x.a, x.a, x.m, x.l⟩
def zeroV (x : Wn) : Bool := x.l == x.a && x.m == x.a
def probeV (x : Wn) : Wn × Int × Int := if zeroV x then (⟨x.a, x.s, max x.m (x.a + 1), x.l⟩, x.a, 0) else (x, 0, 231)

/-- In order, and small. -/
def Inv (B : Int) (x : Wn) : Prop := 0 ≤ x.a ∧ x.a ≤ x.s ∧ x.s ≤ x.m ∧ x.m ≤ x.l + 1 ∧ x.l ≤ B

theorem none_win (g : Nat) (x : Wn) (h : Bool) (w : World) (m : Win w g x h) : Calls Try.prog 27 #[ptr g] w fun e w' => e = .returned (.bool (!h)) ∧ w = w' := by
  have c4 := m.c4
  go_enter Try.func27, Try.ntmps27
  go_wp2
  go_ret
  exact ⟨rfl, rfl⟩

theorem room_win (g : Nat) (x : Wn) (w : World) (B : Int) (hB : B ≤ 1000000000) (hi : Inv B x) (m : Win w g x true) : Calls Try.prog 14 #[ptr g] w fun e w' => e = .returned (.int .i64 (roomV x)) ∧ ∃ k, w' = w.drewN k := by
  obtain ⟨i0, i1, i2, i3, i4⟩ := hi
  have c4 := m.c4
  have c1 := m.c1
  have c3 := m.c3
  unfold roomV
  go_enter Try.func14, Try.ntmps14
  go_wp2_with (go_at_call 27; refine (none_win _ _ _ _ m).mono ?_; rintro e w' ⟨rfl, rfl⟩)
  go_quiet (fail)
  go_wp2
  go_ret
  exact ⟨rfl, _, rfl⟩

theorem zero_win (g : Nat) (x : Wn) (w : World) (m : Win w g x true) : Calls Try.prog 16 #[ptr g] w fun e w' => e = .returned (.bool (zeroV x)) ∧ ∃ k, w' = w.drewN k := by
  have c4 := m.c4
  have c0 := m.c0
  have c2 := m.c2
  have c3 := m.c3
  by_cases h1 : x.l = x.a
  · by_cases h2 : x.m = x.a
    · have e : zeroV x = true := by simp [zeroV, h1, h2]
      have d1 : (x.l == x.a) = true := by simp [h1]
      have d2 : (x.m == x.a) = true := by simp [h2]
      rw [e]
      clear h1 h2 e
      go_enter Try.func16, Try.ntmps16
      go_wp2_with fail
      go_quiet ((go_at_call 27; exact quiet_left (none_win _ _ _ _ (Blk.drewN m _))))
      go_wp2
      go_ret
      exact ⟨rfl, _, rfl⟩
    · have e : zeroV x = false := by simp [zeroV, h1, h2]
      have d1 : (x.l == x.a) = true := by simp [h1]
      have d2 : (x.m == x.a) = false := by simp [h2]
      rw [e]
      clear h1 h2 e
      go_enter Try.func16, Try.ntmps16
      go_wp2_with fail
      go_quiet ((go_at_call 27; exact quiet_left (none_win _ _ _ _ (Blk.drewN m _))))
      go_wp2
      go_ret
      exact ⟨rfl, _, rfl⟩
  · have e : zeroV x = false := by simp [zeroV, h1]
    have d1 : (x.l == x.a) = false := by simp [h1]
    rw [e]
    clear h1 e
    go_enter Try.func16, Try.ntmps16
    go_wp2_with fail
    go_quiet ((go_at_call 27; exact quiet_left (none_win _ _ _ _ (Blk.drewN m _))))
    go_wp2
    go_ret
    exact ⟨rfl, _, rfl⟩

theorem back_win (g : Nat) (x : Wn) (w : World) (m : Win w g x true) : Calls Try.prog 23 #[ptr g] w fun e w' => e = .returned (.int .i64 0) ∧ Fr [g] w w' ∧ Win w' g (backV x) true := by
  have c4 := m.c4
  have c0 := m.c0
  have c1 := m.c1
  have f1 := m.fz 1
  go_enter Try.func23, Try.ntmps23
  go_wp2_with (go_at_call 27; refine (none_win _ _ _ _ m).mono ?_; rintro e w' ⟨rfl, rfl⟩)
  go_ret
  refine ⟨rfl, Fr.setCell (Fr.refl _ _) (by simp) _, ?_⟩
  have := Blk.set_ m 1 (.int .i64 x.a)
  simpa [Win, backV] using this
end Go.Proofs.Ythhageigbonoaaa
