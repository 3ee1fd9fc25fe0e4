import Derived.Test.YtkpgkoeclhlidaaA
namespace Go.Proofs.Ytkpgkoeclhlidaa
open Go.RowKit

theorem due_fr (g : Nat) (c : Ck) (n : Int) (w : World) (m : Clk w g c) (hi : Inv c) : Calls Try.prog 13 #[ptr g, .int .i64 n] w fun e w' => e = .returned (.bool (dueV c n)) ∧ Fr [] w w' :=
  (due_clk g c n w m hi).mono fun _ _ ⟨h, k, hk⟩ => ⟨h, by rw [hk]; exact (Fr.refl _ _).drewN k⟩

theorem sample_no (g : Nat) (c : Ck) (n : Int) (w : World) (m : Clk w g c) (hi : Inv c) (h : n < 0 ∨ 65536 < n) : Calls Try.prog 10 #[ptr g, .int .i64 n] w fun e w' => e = .returned (.int .i64 2) ∧ w = w' := by
  by_cases h1 : n < 0
  · go_enter Try.func10, Try.ntmps10
    go_wp2_with (first | (go_at_call 24; refine (none_clk _ _ _ m hi).mono ?_; rintro e w' ⟨rfl, rfl⟩))
    go_ret
    exact ⟨rfl, rfl⟩
  · have h2 : 65536 < n := by omega
    clear h
    go_enter Try.func10, Try.ntmps10
    go_wp2_with (first | (go_at_call 24; refine (none_clk _ _ _ m hi).mono ?_; rintro e w' ⟨rfl, rfl⟩))
    go_ret
    exact ⟨rfl, rfl⟩

theorem sample_new (g : Nat) (c : Ck) (n : Int) (w : World) (m : Clk w g c) (hi : Inv c) (h0 : 0 ≤ n) (h1 : n ≤ 65536) (his : c.is = false) :
    Calls Try.prog 10 #[ptr g, .int .i64 n] w fun e w' => e = .returned (.int .i64 0) ∧ Fr [g] w w' ∧ Clk w' g { learnV c n with wt := knowsV (learnV c n) } := by
  obtain ⟨c0, c1, c2, c3, c4, c5, c6, c7, c8, c9, c10⟩ := cells_of m
  have z4 := Blk.frozen m 4
  have z5 := Blk.frozen m 5
  have z6 := Blk.frozen m 6
  have hl := learn_inv hi h0 h1
  have hk := fun W (mW : Clk W g (learnV c n)) => knows_fr g (learnV c n) W mW hl
  have hL : learnV c n = { c with is := true, tm := 8 * n, sp := 2 * n } := by unfold learnV; simp [his]
  rw [his] at c4
  revert hk
  generalize knowsV (learnV c n) = K
  intro hk
  have Hk : Hid _ := hk
  have HL : Hid _ := hL
  clear hk hL his
  go_enter Try.func10, Try.ntmps10
  go_wp2_with (first | (go_at_call 24; refine (none_clk _ _ _ m hi).mono ?_; rintro e w' ⟨rfl, rfl⟩))
  have m1 : Clk (((w.setCell ⟨g, 4, none⟩ (.bool true)).setCell ⟨g, 5, none⟩ (.int .i64 (8 * n))).setCell ⟨g, 6, none⟩ (.int .i64 (2 * n))) g (learnV c n) := by
    rw [HL.out]
    simpa [Clk] using Blk.set_ (Blk.set_ (Blk.set_ m 4 (.bool true)) 5 (.int .i64 (8 * n))) 6 (.int .i64 (2 * n))
  have f1 : Fr [g] w (((w.setCell ⟨g, 4, none⟩ (.bool true)).setCell ⟨g, 5, none⟩ (.int .i64 (8 * n))).setCell ⟨g, 6, none⟩ (.int .i64 (2 * n))) := Fr.setCell (Fr.setCell (Fr.setCell (Fr.refl _ _) (by simp) _) (by simp) _) (by simp) _
  refine (Hk.out _ m1).mono ?_
  rintro e w1 ⟨rfl, f2⟩
  have m2 : Clk w1 g (learnV c n) := Blk.fr m1 f2 (by simp)
  have f3 := f1.trans f2 (by simp)
  have d7 := (cells_of m2).c7
  have z7 := Blk.frozen m2 7
  clear m1 f1 f2
  go_wp2_with fail
  go_ret
  refine ⟨rfl, Fr.setCell f3 (by simp) _, ?_⟩
  simpa [Clk] using Blk.set_ m2 7 (.int .i64 K)

theorem sample_old (g : Nat) (c : Ck) (n : Int) (w : World) (m : Clk w g c) (hi : Inv c) (h0 : 0 ≤ n) (h1 : n ≤ 65536) (his : c.is = true) :
    Calls Try.prog 10 #[ptr g, .int .i64 n] w fun e w' => e = .returned (.int .i64 0) ∧ Fr [g] w w' ∧ Clk w' g { learnV c n with wt := knowsV (learnV c n) } := by
  obtain ⟨c0, c1, c2, c3, c4, c5, c6, c7, c8, c9, c10⟩ := cells_of m
  have z5 := Blk.frozen m 5
  have hl := learn_inv hi h0 h1
  have hk := fun W (mW : Clk W g (learnV c n)) => knows_fr g (learnV c n) W mW hl
  have hL : learnV c n = { c with tm := c.tm + (n - c.tm / 8), sp := c.sp + (max (n - c.tm / 8) (-(n - c.tm / 8)) - c.sp / 4) } := by unfold learnV; simp [his]
  have hi' := hi
  obtain ⟨l1, lf, fm, m1, t1, t2, tm0, tm1, sp0, sp1, w1, w2, s0, s1, r0, r1⟩ := hi'
  rw [his] at c4
  revert hk
  generalize knowsV (learnV c n) = K
  intro hk
  have Hk : Hid _ := hk
  have HL : Hid _ := hL
  clear hk hL his
  go_enter Try.func10, Try.ntmps10
  go_wp2_with (first | (go_at_call 24; refine (none_clk _ _ _ m hi).mono ?_; rintro e w' ⟨rfl, rfl⟩))
  have b1 := Blk.set_ m 5 (.int .i64 (c.tm + (n - c.tm / 8)))
  have f1 : Fr [g] w (w.setCell ⟨g, 5, none⟩ (.int .i64 (c.tm + (n - c.tm / 8)))) := Fr.setCell (Fr.refl _ _) (by simp) _
  generalize w.setCell ⟨g, 5, none⟩ (.int .i64 (c.tm + (n - c.tm / 8))) = w1 at *
  have d6 : w1.cell? ⟨g, 6, none⟩ = some (.int .i64 c.sp) := by simpa using Blk.cell b1 6
  have z6 := Blk.frozen b1 6
  have x0 : IntKind.i64.wrap (n - c.tm / 8) = n - c.tm / 8 := IntWalk.i64_in _ (by omega)
  have x1 : IntKind.i64.wrap (-(n - c.tm / 8)) = -(n - c.tm / 8) := IntWalk.i64_in _ (by omega)
  have x2 : IntKind.i64.wrap (c.sp / 4) = c.sp / 4 := IntWalk.i64_in _ (by omega)
  go_region
  all_goals go_wp2_with fail
  have m1 : Clk ((w1.setCell ⟨g, 6, none⟩ (.int .i64 (c.sp + (max (n - c.tm / 8) (-(n - c.tm / 8)) - c.sp / 4)))).drew) g (learnV c n) := by
    rw [HL.out]
    exact Blk.drew (by simpa [Clk] using Blk.set_ b1 6 (.int .i64 (c.sp + (max (n - c.tm / 8) (-(n - c.tm / 8)) - c.sp / 4))))
  have f1' : Fr [g] w ((w1.setCell ⟨g, 6, none⟩ (.int .i64 (c.sp + (max (n - c.tm / 8) (-(n - c.tm / 8)) - c.sp / 4)))).drew) := (Fr.setCell f1 (by simp) _).drew
  refine (Hk.out _ m1).mono ?_
  rintro e w2 ⟨rfl, f2⟩
  have m2 : Clk w2 g (learnV c n) := Blk.fr m1 f2 (by simp)
  have f3 := f1'.trans f2 (by simp)
  have d7 := (cells_of m2).c7
  have z7 := Blk.frozen m2 7
  clear m1 f1 f2 f1' b1 d6 z6
  go_wp2_with fail
  go_ret
  refine ⟨rfl, Fr.setCell f3 (by simp) _, ?_⟩
  simpa [Clk] using Blk.set_ m2 7 (.int .i64 K)

theorem sample_clk (g : Nat) (c : Ck) (n : Int) (w : World) (m : Clk w g c) (hi : Inv c) :
    Calls Try.prog 10 #[ptr g, .int .i64 n] w fun e w' => e = .returned (.int .i64 (sampleV c n).2) ∧ Fr [g] w w' ∧ Clk w' g (sampleV c n).1 := by
  unfold sampleV
  by_cases h : n < 0 ∨ 65536 < n
  · rw [if_pos h]
    exact (sample_no g c n w m hi h).mono fun _ _ ⟨e, hw⟩ => by subst hw; exact ⟨e, Fr.refl _ _, m⟩
  · rw [if_neg h]
    cases his : c.is
    · exact sample_new g c n w m hi (by omega) (by omega) his
    · exact sample_old g c n w m hi (by omega) (by omega) his

theorem wait_clk (g : Nat) (c : Ck) (w : World) (m : Clk w g c) (hi : Inv c) : Calls Try.prog 14 #[ptr g] w fun e w' => e = .returned (.int .i64 c.wt) ∧ w = w' := by
  have c7 := (cells_of m).c7
  go_enter Try.func14, Try.ntmps14
  go_wp2_with (first | (go_at_call 24; refine (none_clk _ _ _ m hi).mono ?_; rintro e w' ⟨rfl, rfl⟩))
  go_ret
  exact ⟨rfl, rfl⟩
theorem tries_clk (g : Nat) (c : Ck) (w : World) (m : Clk w g c) (hi : Inv c) : Calls Try.prog 20 #[ptr g] w fun e w' => e = .returned (.int .i64 c.tr) ∧ w = w' := by
  have c9 := (cells_of m).c9
  go_enter Try.func20, Try.ntmps20
  go_wp2_with (first | (go_at_call 24; refine (none_clk _ _ _ m hi).mono ?_; rintro e w' ⟨rfl, rfl⟩))
  go_ret
  exact ⟨rfl, rfl⟩
theorem runs_clk (g : Nat) (c : Ck) (w : World) (m : Clk w g c) (hi : Inv c) : Calls Try.prog 12 #[ptr g] w fun e w' => e = .returned (.bool c.rn) ∧ w = w' := by
  have c10 := (cells_of m).c10
  go_enter Try.func12, Try.ntmps12
  go_wp2_with (first | (go_at_call 24; refine (none_clk _ _ _ m hi).mono ?_; rintro e w' ⟨rfl, rfl⟩))
  go_ret
  exact ⟨rfl, rfl⟩
theorem copy_clk (g : Nat) (c : Ck) (w : World) (m : Clk w g c) (hi : Inv c) : Calls Try.prog 21 #[ptr g] w fun e w' => e = .returned (ptr w.heap.size) ∧ Fr [] w w' ∧ Clk w' w.heap.size c ∧ w.heap.size < w'.heap.size := by
  obtain ⟨c0, c1, c2, c3, c4, c5, c6, c7, c8, c9, c10⟩ := cells_of m
  have hl := Blk.lt m
  go_enter Try.func21, Try.ntmps21
  go_wp2_with (first | (go_at_call 24; refine (none_clk _ _ _ m hi).mono ?_; rintro e w' ⟨rfl, rfl⟩))
  go_ret
  exact ⟨rfl, (Fr.refl _ _).alloc _, Blk.new _ _ _, by simp⟩
end Go.Proofs.Ytkpgkoeclhlidaa
