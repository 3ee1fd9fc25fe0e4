import Derived.Test.YtkpgkoeclhlidaaI
import Derived.Test.YtkpgkoeclhlidaaJ
import Derived.Test.YtkpgkoeclhlidaaK
namespace Go.Proofs.Ytkpgkoeclhlidaa
open Go.RowKit

set_option maxRecDepth 100000 in
set_option maxHeartbeats 4000000 in
theorem does_0 (g : Nat) (c : Ck) (k n : Int) (near : Bool) (w : World) (m : Clk w g c) (hi : Inv c) (h1 : k ≠ 1) (h2 : k ≠ 2) (h3 : k ≠ 3) (h4 : k ≠ 4) (h5 : k ≠ 5) :
    Calls Try.prog 18 #[ptr g, agC c, agA k n near] w fun e w' => e = .returned (.tuple #[agC c, .bool true]) ∧ Fr [g] w w' ∧ Clk w' g c := by
  have hg := Blk.lt m
  have e1 : (k == 1) = false := by simpa using h1
  have e2 : (k == 2) = false := by simpa using h2
  have e3 : (k == 3) = false := by simpa using h3
  have e4 : (k == 4) = false := by simpa using h4
  have e5 : (k == 5) = false := by simpa using h5
  clear h1 h2 h3 h4 h5
  obtain ⟨l1, lf, fm, m1, t1, t2, tm0, tm1, sp0, sp1, w1, w2, s0, s1, r0, r1⟩ := id hi
  have hw := nearN_ways c n near
  generalize nearN c n near = N at *
  rcases hw with ⟨rfl, rfl⟩ | ⟨rfl, h1, rfl⟩ | ⟨rfl, h1, h2, rfl⟩ | ⟨rfl, h1, h2, rfl⟩
  all_goals
    go_enter Try.func18, Try.ntmps18
    go_wp2
    refine ret18 (d := c) (Blk.new ((w.alloc _).alloc _) _ _) (by simp [World.size_alloc]) rfl rfl ⟨rfl, (((Fr.refl [g] w).alloc _).alloc _).alloc _, Blk.alloc (Blk.alloc (Blk.alloc m _) _) _⟩

set_option maxRecDepth 100000 in
set_option maxHeartbeats 4000000 in
theorem does_3' (g : Nat) (c : Ck) (n : Int) (near : Bool) (w : World) (m : Clk w g c) (hi : Inv c) :
    Calls Try.prog 18 #[ptr g, agC c, agA 3 n near] w fun e w' => e = .returned (.tuple #[agC (stopV c), .bool true]) ∧ Fr [g] w w' ∧ Clk w' g (stopV c) := by
  have hg := Blk.lt m
  obtain ⟨l1, lf, fm, m1, t1, t2, tm0, tm1, sp0, sp1, w1, w2, s0, s1, r0, r1⟩ := id hi
  have hw := nearN_ways c n near
  generalize nearN c n near = N at *
  have k1 := fun W (mW : Clk W g c) => stop_clk g c W mW hi
  have k2 := fun W => rstop c W hi
  revert k1 k2
  generalize stopV c = d
  intro k1 k2
  have K1 : Hid _ := k1
  have K2 : Hid _ := k2
  clear k1 k2
  rcases hw with ⟨rfl, rfl⟩ | ⟨rfl, h1, rfl⟩ | ⟨rfl, h1, h2, rfl⟩ | ⟨rfl, h1, h2, rfl⟩
  · obtain ⟨bP, bX, bR⟩ := three w c.arr #[.int .i64 3, .int .i64 n, .bool false] ck0.arr 40 45 40
    have f0 : Fr [g] w (((w.alloc (.cells c.arr 40)).alloc (.cells #[.int .i64 3, .int .i64 n, .bool false] 45)).alloc (.cells ck0.arr 40)) := (((Fr.refl [g] w).alloc _).alloc _).alloc _
    have m0 : Clk (((w.alloc (.cells c.arr 40)).alloc (.cells #[.int .i64 3, .int .i64 n, .bool false] 45)).alloc (.cells ck0.arr 40)) g c := Blk.alloc (Blk.alloc (Blk.alloc m _) _) _
    go_enter Try.func18, Try.ntmps18
    go_wp2_with fail
    refine (K2.out _).mono ?_
    rintro e w1 ⟨rfl, f1⟩
    have R1 := Blk.fr bR f1 (by simp)
    have M1 : Clk w1 g c := Blk.fr m0 f1 (by simp)
    have F1 : Fr [g] w w1 := Fr.trans f0 f1 (by simp)
    go_wp2_with fail
    refine (K1.out _ M1).mono ?_
    rintro e w2 ⟨rfl, f2, M2⟩
    have R2 := Blk.fr R1 f2 (by simp; omega)
    have F2 : Fr [g] w w2 := F1.trans f2 (by simp)
    obtain ⟨c0, c1, c2, c3, c4, c5, c6, c7, c8, c9, c10⟩ := cells_of R2
    obtain ⟨z0, z1, z2, z3, z4, z5, z6, z7, z8, z9, z10⟩ := free_of R2
    clear bP bX bR f0 m0 f1 R1 M1 F1 f2
    go_wp2_with fail
    refine ret18 (d := d) (set11 R2 _) rfl rfl rfl ⟨rfl, fr11 F2 (Or.inr (by omega)) _, far11 M2 (by omega) _⟩
  · obtain ⟨bP, bX, bR⟩ := three w c.arr #[.int .i64 3, .int .i64 n, .bool true] ck0.arr 40 45 40
    have f0 : Fr [g] w (((w.alloc (.cells c.arr 40)).alloc (.cells #[.int .i64 3, .int .i64 n, .bool true] 45)).alloc (.cells ck0.arr 40)) := (((Fr.refl [g] w).alloc _).alloc _).alloc _
    have m0 : Clk (((w.alloc (.cells c.arr 40)).alloc (.cells #[.int .i64 3, .int .i64 n, .bool true] 45)).alloc (.cells ck0.arr 40)) g c := Blk.alloc (Blk.alloc (Blk.alloc m _) _) _
    go_enter Try.func18, Try.ntmps18
    go_wp2_with fail
    refine (K2.out _).mono ?_
    rintro e w1 ⟨rfl, f1⟩
    have R1 := Blk.fr bR f1 (by simp)
    have M1 : Clk w1 g c := Blk.fr m0 f1 (by simp)
    have F1 : Fr [g] w w1 := Fr.trans f0 f1 (by simp)
    go_wp2_with fail
    refine (K1.out _ M1).mono ?_
    rintro e w2 ⟨rfl, f2, M2⟩
    have R2 := Blk.fr R1 f2 (by simp; omega)
    have F2 : Fr [g] w w2 := F1.trans f2 (by simp)
    obtain ⟨c0, c1, c2, c3, c4, c5, c6, c7, c8, c9, c10⟩ := cells_of R2
    obtain ⟨z0, z1, z2, z3, z4, z5, z6, z7, z8, z9, z10⟩ := free_of R2
    clear bP bX bR f0 m0 f1 R1 M1 F1 f2
    go_wp2_with fail
    refine ret18 (d := d) (set11 R2 _) rfl rfl rfl ⟨rfl, fr11 F2 (Or.inr (by omega)) _, far11 M2 (by omega) _⟩
  · obtain ⟨bP, bX, bR⟩ := three w c.arr #[.int .i64 3, .int .i64 n, .bool true] ck0.arr 40 45 40
    have f0 : Fr [g] w (((w.alloc (.cells c.arr 40)).alloc (.cells #[.int .i64 3, .int .i64 n, .bool true] 45)).alloc (.cells ck0.arr 40)) := (((Fr.refl [g] w).alloc _).alloc _).alloc _
    have m0 : Clk (((w.alloc (.cells c.arr 40)).alloc (.cells #[.int .i64 3, .int .i64 n, .bool true] 45)).alloc (.cells ck0.arr 40)) g c := Blk.alloc (Blk.alloc (Blk.alloc m _) _) _
    go_enter Try.func18, Try.ntmps18
    go_wp2_with fail
    refine (K2.out _).mono ?_
    rintro e w1 ⟨rfl, f1⟩
    have R1 := Blk.fr bR f1 (by simp)
    have M1 : Clk w1 g c := Blk.fr m0 f1 (by simp)
    have F1 : Fr [g] w w1 := Fr.trans f0 f1 (by simp)
    go_wp2_with fail
    refine (K1.out _ M1).mono ?_
    rintro e w2 ⟨rfl, f2, M2⟩
    have R2 := Blk.fr R1 f2 (by simp; omega)
    have F2 : Fr [g] w w2 := F1.trans f2 (by simp)
    obtain ⟨c0, c1, c2, c3, c4, c5, c6, c7, c8, c9, c10⟩ := cells_of R2
    obtain ⟨z0, z1, z2, z3, z4, z5, z6, z7, z8, z9, z10⟩ := free_of R2
    clear bP bX bR f0 m0 f1 R1 M1 F1 f2
    go_wp2_with fail
    refine ret18 (d := d) (set11 R2 _) rfl rfl rfl ⟨rfl, fr11 F2 (Or.inr (by omega)) _, far11 M2 (by omega) _⟩
  · obtain ⟨bP, bX, bR⟩ := three w c.arr #[.int .i64 3, .int .i64 n, .bool true] ck0.arr 40 45 40
    have f0 : Fr [g] w (((w.alloc (.cells c.arr 40)).alloc (.cells #[.int .i64 3, .int .i64 n, .bool true] 45)).alloc (.cells ck0.arr 40)) := (((Fr.refl [g] w).alloc _).alloc _).alloc _
    have m0 : Clk (((w.alloc (.cells c.arr 40)).alloc (.cells #[.int .i64 3, .int .i64 n, .bool true] 45)).alloc (.cells ck0.arr 40)) g c := Blk.alloc (Blk.alloc (Blk.alloc m _) _) _
    go_enter Try.func18, Try.ntmps18
    go_wp2_with fail
    refine (K2.out _).mono ?_
    rintro e w1 ⟨rfl, f1⟩
    have R1 := Blk.fr bR f1 (by simp)
    have M1 : Clk w1 g c := Blk.fr m0 f1 (by simp)
    have F1 : Fr [g] w w1 := Fr.trans f0 f1 (by simp)
    go_wp2_with fail
    refine (K1.out _ M1).mono ?_
    rintro e w2 ⟨rfl, f2, M2⟩
    have R2 := Blk.fr R1 f2 (by simp; omega)
    have F2 : Fr [g] w w2 := F1.trans f2 (by simp)
    obtain ⟨c0, c1, c2, c3, c4, c5, c6, c7, c8, c9, c10⟩ := cells_of R2
    obtain ⟨z0, z1, z2, z3, z4, z5, z6, z7, z8, z9, z10⟩ := free_of R2
    clear bP bX bR f0 m0 f1 R1 M1 F1 f2
    go_wp2_with fail
    refine ret18 (d := d) (set11 R2 _) rfl rfl rfl ⟨rfl, fr11 F2 (Or.inr (by omega)) _, far11 M2 (by omega) _⟩

theorem does_any (g : Nat) (c : Ck) (k n : Int) (near : Bool) (w : World) (m : Clk w g c) (hi : Inv c) :
    Calls Try.prog 18 #[ptr g, agC c, agA k n near] w fun e w' => e = .returned (.tuple #[agC (doesV c k n near), .bool true]) ∧ Fr [g] w w' ∧ Clk w' g (doesV c k n near) := by
  unfold doesV
  by_cases h1 : k = 1
  · subst h1; rw [if_pos rfl]; exact does_1 g c n near w m hi
  rw [if_neg h1]
  by_cases h2 : k = 2
  · subst h2; rw [if_pos rfl]; exact does_2 g c n near w m hi
  rw [if_neg h2]
  by_cases h3 : k = 3
  · subst h3; rw [if_pos rfl]; exact does_3' g c n near w m hi
  rw [if_neg h3]
  by_cases h4 : k = 4
  · subst h4; rw [if_pos rfl]; exact does_4 g c n near w m hi
  rw [if_neg h4]
  by_cases h5 : k = 5
  · subst h5; exact does_5 g c n near w m hi
  exact does_0 g c k n near w m hi h1 h2 h3 h4 h5

theorem same_clk (g : Nat) (c : Ck) (w : World) (m : Clk w g c) (hi : Inv c) : Calls Try.prog 19 #[ptr g, agC c] w fun e w' => e = .returned (.bool true) ∧ Fr [] w w' := by
  have mA : Clk (w.alloc (.cells c.arr 40)) g c := Blk.alloc m _
  have bP : Blk (w.alloc (.cells c.arr 40)) w.heap.size 40 c.arr := Blk.new _ _ _
  obtain ⟨c0, c1, c2, c3, c4, c5, c6, c7, c8, c9, c10⟩ := cells_of bP
  go_enter Try.func19, Try.ntmps19
  go_wp2_with fail
  go_quiet (first | (go_at_call 14; exact quiet_left (wait_clk _ _ _ (Blk.drewN mA _) hi)) | (go_at_call 20; exact quiet_left (tries_clk _ _ _ (Blk.drewN mA _) hi)) | (go_at_call 12; exact quiet_left (runs_clk _ _ _ (Blk.drewN mA _) hi)))
  go_wp2
  go_ret
  exact ⟨rfl, ((Fr.refl _ _).alloc _).drewN _⟩
end Go.Proofs.Ytkpgkoeclhlidaa
