import Derived.Test.YtkpgkoeclhlidaaProg
import Derived.Test.YtkpgkoeclhlidaaKit
import Derived.Test.YtkpgkoeclhlidaaV
namespace Go.Proofs.Ytkpgkoeclhlidaa
open Go.RowKit

abbrev ptr (g : Nat) : Value := .pointer (some ⟨g, 0, none⟩)
abbrev Ck.arr (c : Ck) : Array Value := #[.int .i64 c.f, .int .i64 c.l, .int .i64 c.m, .int .i64 c.t, .bool c.is, .int .i64 c.tm, .int .i64 c.sp, .int .i64 c.wt, .int .i64 c.si, .int .i64 c.tr, .bool c.rn]
def Clk (w : World) (g : Nat) (c : Ck) : Prop := Blk w g 54 c.arr
/-- The eleven cells of a block. -/
structure Cells (w : World) (g : Nat) (c : Ck) : Prop where
  c0 : w.cell? ⟨g, 0, none⟩ = some (.int .i64 c.f)
  c1 : w.cell? ⟨g, 1, none⟩ = some (.int .i64 c.l)
  c2 : w.cell? ⟨g, 2, none⟩ = some (.int .i64 c.m)
  c3 : w.cell? ⟨g, 3, none⟩ = some (.int .i64 c.t)
  c4 : w.cell? ⟨g, 4, none⟩ = some (.bool c.is)
  c5 : w.cell? ⟨g, 5, none⟩ = some (.int .i64 c.tm)
  c6 : w.cell? ⟨g, 6, none⟩ = some (.int .i64 c.sp)
  c7 : w.cell? ⟨g, 7, none⟩ = some (.int .i64 c.wt)
  c8 : w.cell? ⟨g, 8, none⟩ = some (.int .i64 c.si)
  c9 : w.cell? ⟨g, 9, none⟩ = some (.int .i64 c.tr)
  c10 : w.cell? ⟨g, 10, none⟩ = some (.bool c.rn)
theorem cells_of {w : World} {g : Nat} {t : TypeId} {c : Ck} (h : Blk w g t c.arr) : Cells w g c := by
  have := Blk.cell h
  exact ⟨this 0, this 1, this 2, this 3, this 4, this 5, this 6, this 7, this 8, this 9, this 10⟩

theorem none_nil (w : World) : Calls Try.prog 24 #[.pointer none] w fun e w' => e = .returned (.bool true) ∧ w = w' := by
  go_enter Try.func24, Try.ntmps24
  go_wp2
  go_ret
  exact ⟨rfl, rfl⟩
theorem none_z (g : Nat) (c : Ck) (w : World) (m : Clk w g c) (h : c.f = 0) : Calls Try.prog 24 #[ptr g] w fun e w' => e = .returned (.bool true) ∧ w = w' := by
  have c0 := (cells_of m).c0
  rw [h] at c0
  go_enter Try.func24, Try.ntmps24
  go_wp2
  go_ret
  exact ⟨rfl, rfl⟩
theorem none_clk (g : Nat) (c : Ck) (w : World) (m : Clk w g c) (hi : Inv c) : Calls Try.prog 24 #[ptr g] w fun e w' => e = .returned (.bool false) ∧ w = w' := by
  have c0 := (cells_of m).c0
  have h : (c.f == 0) = false := by have := hi.l1; have := hi.lf; simp; omega
  go_enter Try.func24, Try.ntmps24
  go_wp2
  go_ret
  exact ⟨rfl, rfl⟩
theorem within_any (x l m : Int) (w : World) : Calls Try.prog 32 #[.int .i64 x, .int .i64 l, .int .i64 m] w fun e w' => e = .returned (.int .i64 (max l (min m x))) ∧ w = w' := by
  go_enter Try.func32, Try.ntmps32
  go_wp2
  go_ret
  exact ⟨rfl, rfl⟩
theorem knows_clk (g : Nat) (c : Ck) (w : World) (m : Clk w g c) (hi : Inv c) : Calls Try.prog 25 #[ptr g] w fun e w' => e = .returned (.int .i64 (knowsV c)) ∧ ∃ k, w' = w.drewN k := by
  obtain ⟨c0, c1, c2, c3, c4, c5, c6, c7, c8, c9, c10⟩ := cells_of m
  obtain ⟨l1, lf, fm, m1, t1, t2, tm0, tm1, sp0, sp1, w1, w2, s0, s1, r0, r1⟩ := hi
  unfold knowsV
  cases h : c.is
  · rw [h] at c4
    clear h
    go_enter Try.func25, Try.ntmps25
    go_wp2
    go_ret
    exact ⟨rfl, 0, rfl⟩
  · rw [h] at c4
    clear h
    rw [if_pos rfl]
    have e1 : IntKind.i64.wrap (c.tm / 8) = c.tm / 8 := IntWalk.i64_in _ (by omega)
    have e2 : IntKind.i64.wrap (c.tm / 8 + max 1 c.sp) = c.tm / 8 + max 1 c.sp := IntWalk.i64_in _ (by omega)
    go_enter Try.func25, Try.ntmps25
    go_wp2_with fail
    go_quiet ((go_at_call 32; exact quiet_left (within_any _ _ _ _)))
    go_wp2
    go_ret
    exact ⟨rfl, _, rfl⟩
theorem may_clk (g : Nat) (c : Ck) (n : Int) (w : World) (m : Clk w g c) : Calls Try.prog 26 #[ptr g, .int .i64 n] w fun e w' => e = .returned (.bool (mayV c n)) ∧ w = w' := by
  obtain ⟨c0, c1, c2, c3, c4, c5, c6, c7, c8, c9, c10⟩ := cells_of m
  by_cases h1 : n < 0
  · have e : mayV c n = false := by unfold mayV; simp; omega
    rw [e]
    clear e
    go_enter Try.func26, Try.ntmps26
    go_wp2
    go_ret
    exact ⟨rfl, rfl⟩
  by_cases h2 : 2147483647 < n
  · have e : mayV c n = false := by unfold mayV; simp; omega
    rw [e]
    clear e
    go_enter Try.func26, Try.ntmps26
    go_wp2
    go_ret
    exact ⟨rfl, rfl⟩
  cases h3 : c.rn
  · have e : mayV c n = true := by unfold mayV; simp [h3]; omega
    rw [e]
    rw [h3] at c10
    clear e h3
    go_enter Try.func26, Try.ntmps26
    go_wp2
    go_ret
    exact ⟨rfl, rfl⟩
  · by_cases h4 : n < c.si
    · have e : mayV c n = false := by unfold mayV; simp [h3]; omega
      rw [e]
      rw [h3] at c10
      clear e h3
      go_enter Try.func26, Try.ntmps26
      go_wp2
      go_ret
      exact ⟨retb_eq (by simp; omega), rfl⟩
    · have e : mayV c n = true := by unfold mayV; simp [h3]; omega
      rw [e]
      rw [h3] at c10
      clear e h3
      go_enter Try.func26, Try.ntmps26
      go_wp2
      go_ret
      exact ⟨rfl, rfl⟩

theorem start_clk (g : Nat) (c : Ck) (n : Int) (w : World) (m : Clk w g c) (hi : Inv c) : Calls Try.prog 11 #[ptr g, .int .i64 n] w fun e w' => e = .returned (.int .i64 (startV c n).2) ∧ Fr [g] w w' ∧ Clk w' g (startV c n).1 := by
  obtain ⟨c0, c1, c2, c3, c4, c5, c6, c7, c8, c9, c10⟩ := cells_of m
  have z8 := Blk.frozen m 8
  have z9 := Blk.frozen m 9
  have z10 := Blk.frozen m 10
  have hm := may_clk g c n w m
  unfold startV
  cases h : mayV c n
  · rw [if_neg (by simp)]
    rw [h] at hm
    go_enter Try.func11, Try.ntmps11
    go_wp2_with (first | (go_at_call 24; refine (none_clk _ _ _ m hi).mono ?_; rintro e w' ⟨rfl, rfl⟩) | (go_at_call 26; refine hm.mono ?_; rintro e w' ⟨rfl, rfl⟩))
    go_ret
    exact ⟨rfl, Fr.refl _ _, m⟩
  · rw [if_pos rfl]
    rw [h] at hm
    go_enter Try.func11, Try.ntmps11
    go_wp2_with (first | (go_at_call 24; refine (none_clk _ _ _ m hi).mono ?_; rintro e w' ⟨rfl, rfl⟩) | (go_at_call 26; refine hm.mono ?_; rintro e w' ⟨rfl, rfl⟩))
    go_ret
    refine ⟨rfl, Fr.setCell (Fr.setCell (Fr.setCell (Fr.refl _ _) (by simp) _) (by simp) _) (by simp) _, ?_⟩
    simpa [Clk] using Blk.set_ (Blk.set_ (Blk.set_ m 10 (.bool true)) 8 (.int .i64 n)) 9 (.int .i64 0)

theorem knows_fr (g : Nat) (c : Ck) (w : World) (m : Clk w g c) (hi : Inv c) : Calls Try.prog 25 #[ptr g] w fun e w' => e = .returned (.int .i64 (knowsV c)) ∧ Fr [] w w' :=
  (knows_clk g c w m hi).mono fun _ _ ⟨h, k, hk⟩ => ⟨h, by rw [hk]; exact (Fr.refl _ _).drewN k⟩

theorem stop_clk (g : Nat) (c : Ck) (w : World) (m : Clk w g c) (hi : Inv c) : Calls Try.prog 23 #[ptr g] w fun e w' => e = .returned (.int .i64 0) ∧ Fr [g] w w' ∧ Clk w' g (stopV c) := by
  have hk := knows_fr g c
  unfold stopV
  revert hk
  generalize knowsV c = K
  intro hk
  have Hk : Hid _ := hk
  clear hk
  go_enter Try.func23, Try.ntmps23
  go_wp2_with (first | (go_at_call 24; refine (none_clk _ _ _ m hi).mono ?_; rintro e w' ⟨rfl, rfl⟩))
  refine (Hk.out _ m hi).mono ?_
  rintro e w1 ⟨rfl, f1⟩
  have m1 : Clk w1 g c := Blk.fr m f1 (by simp)
  obtain ⟨c0, c1, c2, c3, c4, c5, c6, c7, c8, c9, c10⟩ := cells_of m1
  have z7 := Blk.frozen m1 7
  have z8 := Blk.frozen m1 8
  have z9 := Blk.frozen m1 9
  have z10 := Blk.frozen m1 10
  go_wp2_with fail
  go_ret
  refine ⟨rfl, Fr.setCell (Fr.setCell (Fr.setCell (Fr.setCell (f1.mono (by simp)) (by simp) _) (by simp) _) (by simp) _) (by simp) _, ?_⟩
  simpa [Clk] using Blk.set_ (Blk.set_ (Blk.set_ (Blk.set_ m1 10 (.bool false)) 8 (.int .i64 0)) 9 (.int .i64 0)) 7 (.int .i64 K)

theorem due_clk (g : Nat) (c : Ck) (n : Int) (w : World) (m : Clk w g c) (hi : Inv c) : Calls Try.prog 13 #[ptr g, .int .i64 n] w fun e w' => e = .returned (.bool (dueV c n)) ∧ ∃ k, w' = w.drewN k := by
  obtain ⟨c0, c1, c2, c3, c4, c5, c6, c7, c8, c9, c10⟩ := cells_of m
  have hm := fun W (mW : Clk W g c) => may_clk g c n W mW
  have hn := fun W (mW : Clk W g c) => none_clk g c W mW hi
  obtain ⟨l1, lf, fm, m1, t1, t2, tm0, tm1, sp0, sp1, w1, w2, s0, s1, r0, r1⟩ := hi
  unfold dueV
  have Hn : Hid _ := hn
  clear hn
  cases h : mayV c n
  · rw [h] at hm
    have Hm : Hid _ := hm
    clear hm h
    go_enter Try.func13, Try.ntmps13
    go_wp2_with fail
    go_quiet (first | (go_at_call 24; exact quiet_left (Hn.out _ (Blk.drewN m _))) | (go_at_call 26; exact quiet_left (Hm.out _ (Blk.drewN m _))))
    go_wp2
    go_ret
    exact ⟨rfl, _, rfl⟩
  · have hb := may_bd h
    rw [h] at hm
    have Hm : Hid _ := hm
    clear hm h
    obtain ⟨b0, b1⟩ := hb
    cases h1 : c.rn
    · rw [h1] at c10
      clear h1
      go_enter Try.func13, Try.ntmps13
      go_wp2_with fail
      go_quiet (first | (go_at_call 24; exact quiet_left (Hn.out _ (Blk.drewN m _))) | (go_at_call 26; exact quiet_left (Hm.out _ (Blk.drewN m _))))
      go_wp2
      go_ret
      exact ⟨rfl, _, rfl⟩
    · rw [h1] at c10
      clear h1
      have e1 : IntKind.i64.wrap (n - c.si) = n - c.si := IntWalk.i64_in _ (by omega)
      go_enter Try.func13, Try.ntmps13
      go_wp2_with fail
      go_quiet (first | (go_at_call 24; exact quiet_left (Hn.out _ (Blk.drewN m _))) | (go_at_call 26; exact quiet_left (Hm.out _ (Blk.drewN m _))))
      go_wp2
      go_ret
      exact ⟨rfl, _, rfl⟩
end Go.Proofs.Ytkpgkoeclhlidaa
