import Derived.Test.YtkpgkoeclhlidaaH
import Derived.Deep.DeepCutAuto
namespace Go.Proofs.Ytkpgkoeclhlidaa
open Go.RowKit

theorem rdue_fr (c : Ck) (n : Int) (w : World) (hi : Inv c) : Calls Try.prog 31 #[agC c, .int .i64 n] w fun e w' => e = .returned (.bool (dueV c n)) ∧ Fr [] w w' :=
  (rdue c n w hi).mono fun _ _ ⟨h, hw⟩ => ⟨h, by rw [← hw]; unfold dueW; split; exact ((Fr.refl _ _).alloc _).alloc _; exact (Fr.refl _ _).alloc _⟩

set_option maxRecDepth 100000 in
set_option maxHeartbeats 4000000 in
theorem does_5 (g : Nat) (c : Ck) (n : Int) (near : Bool) (w : World) (m : Clk w g c) (hi : Inv c) :
    Calls Try.prog 18 #[ptr g, agC c, agA 5 n near] w fun e w' => e = .returned (.tuple #[agC c, .bool true]) ∧ Fr [g] w w' ∧ Clk w' g c := by
  have hg := Blk.lt m
  obtain ⟨l1, lf, fm, m1, t1, t2, tm0, tm1, sp0, sp1, w1, w2, s0, s1, r0, r1⟩ := id hi
  have hw := nearN_ways c n near
  generalize nearN c n near = N at *
  have k1 := fun W mW => due_fr g c N W mW hi
  have k2 := fun W => rdue_fr c N W hi
  revert k1 k2
  generalize dueV c N = D
  intro k1 k2
  have K1 : Hid _ := k1
  have K2 : Hid _ := k2
  clear k1 k2
  rcases hw with ⟨rfl, rfl⟩ | ⟨rfl, h1, rfl⟩ | ⟨rfl, h1, h2, rfl⟩ | ⟨rfl, h1, h2, rfl⟩
  · obtain ⟨bP, bX, bR⟩ := three w c.arr #[.int .i64 5, .int .i64 n, .bool false] #[.int .i64 0, .int .i64 0, .int .i64 0, .int .i64 0, .bool false, .int .i64 0, .int .i64 0, .int .i64 0, .int .i64 0, .int .i64 0, .bool false] 40 45 40
    have f0 : Fr [g] w (((w.alloc (.cells c.arr 40)).alloc (.cells #[.int .i64 5, .int .i64 n, .bool false] 45)).alloc (.cells #[.int .i64 0, .int .i64 0, .int .i64 0, .int .i64 0, .bool false, .int .i64 0, .int .i64 0, .int .i64 0, .int .i64 0, .int .i64 0, .bool false] 40)) := (((Fr.refl [g] w).alloc _).alloc _).alloc _
    have m0 : Clk (((w.alloc (.cells c.arr 40)).alloc (.cells #[.int .i64 5, .int .i64 n, .bool false] 45)).alloc (.cells #[.int .i64 0, .int .i64 0, .int .i64 0, .int .i64 0, .bool false, .int .i64 0, .int .i64 0, .int .i64 0, .int .i64 0, .int .i64 0, .bool false] 40)) g c := Blk.alloc (Blk.alloc (Blk.alloc m _) _) _
    go_enter Try.func18, Try.ntmps18
    go_upto_region 20 with fail
    generalize ((w.alloc (.cells c.arr 40)).alloc (.cells #[.int .i64 5, .int .i64 n, .bool false] 45)).alloc (.cells #[.int .i64 0, .int .i64 0, .int .i64 0, .int .i64 0, .bool false, .int .i64 0, .int .i64 0, .int .i64 0, .int .i64 0, .int .i64 0, .bool false] 40) = W at *
    go_cut [7] (fun s7 wx => s7 = .bool true ∧ Clk wx g c ∧ Fr [g] w wx ∧ Blk wx (w.heap.size + 1 + 1) 40 c.arr)
    case first =>
      obtain ⟨c0, c1, c2, c3, c4, c5, c6, c7, c8, c9, c10⟩ := cells_of bP
      go_region_held3 (fun w' => w'.cell? ⟨w.heap.size, 0, none⟩ = some (.int .i64 c.f) ∧ w'.cell? ⟨w.heap.size, 1, none⟩ = some (.int .i64 c.l) ∧ w'.cell? ⟨w.heap.size, 2, none⟩ = some (.int .i64 c.m) ∧ w'.cell? ⟨w.heap.size, 3, none⟩ = some (.int .i64 c.t) ∧ w'.cell? ⟨w.heap.size, 4, none⟩ = some (.bool c.is) ∧ w'.cell? ⟨w.heap.size, 5, none⟩ = some (.int .i64 c.tm) ∧ w'.cell? ⟨w.heap.size, 6, none⟩ = some (.int .i64 c.sp) ∧ w'.cell? ⟨w.heap.size, 7, none⟩ = some (.int .i64 c.wt) ∧ w'.cell? ⟨w.heap.size, 8, none⟩ = some (.int .i64 c.si) ∧ w'.cell? ⟨w.heap.size, 9, none⟩ = some (.int .i64 c.tr) ∧ w'.cell? ⟨w.heap.size, 10, none⟩ = some (.bool c.rn)) (first | (with_reducible exact ⟨q0, q1, q2, q3, q4, q5, q6, q7, q8, q9, q10⟩) | (with_reducible exact ⟨s0, s1, s2, s3, s4, s5, s6, s7, s8, s9, s10⟩) | (with_reducible exact ⟨p0, p1, p2, p3, p4, p5, p6, p7, p8, p9, p10⟩) | go_keep)
        (first
        | (go_at_call 13; refine (K1.out _ (Blk.drew m0)).mono ?_; rintro e w1 ⟨rfl, f1⟩; have P1 := Blk.fr (Blk.drew bP) f1 (by simp); have R1 := Blk.fr (Blk.drew bR) f1 (by simp); have M1 : Clk w1 g c := Blk.fr (Blk.drew m0) f1 (by simp); have F1 := Fr.trans (Fr.drew f0) f1 (by simp); obtain ⟨p0, p1, p2, p3, p4, p5, p6, p7, p8, p9, p10⟩ := cells_of P1)
        | (go_at_call 31; refine (K2.out _).mono ?_; rintro e w2 ⟨rfl, f2⟩; have P2 := Blk.fr P1 f2 (by simp); have R2 := Blk.fr R1 f2 (by simp); have M2 : Clk w2 g c := Blk.fr M1 f2 (by simp); have F2 := Fr.trans F1 f2 (by simp); obtain ⟨s0, s1, s2, s3, s4, s5, s6, s7, s8, s9, s10⟩ := cells_of P2; obtain ⟨y0, y1, y2, y3, y4, y5, y6, y7, y8, y9, y10⟩ := cells_of (c := ck0) R2; obtain ⟨z0, z1, z2, z3, z4, z5, z6, z7, z8, z9, z10⟩ := free_of R2; obtain ⟨q0, q1, q2, q3, q4, q5, q6, q7, q8, q9, q10⟩ := cells_of (far11 P2 (by omega : w.heap.size ≠ w.heap.size + 1 + 1) c)))
      go_wp2_with fail
      go_meet
      exact ⟨rfl, far11 M2 (by omega) c, fr11 F2 (Or.inr (by omega)) c, set11 (c := ck0) R2 c⟩
    case rest =>
      obtain ⟨rfl, M3, F3, B3⟩ := hcut
      go_wp2_with fail
      refine ret18 (d := c) B3 rfl rfl rfl ⟨rfl, F3, M3⟩
  · obtain ⟨bP, bX, bR⟩ := three w c.arr #[.int .i64 5, .int .i64 n, .bool true] #[.int .i64 0, .int .i64 0, .int .i64 0, .int .i64 0, .bool false, .int .i64 0, .int .i64 0, .int .i64 0, .int .i64 0, .int .i64 0, .bool false] 40 45 40
    have f0 : Fr [g] w (((w.alloc (.cells c.arr 40)).alloc (.cells #[.int .i64 5, .int .i64 n, .bool true] 45)).alloc (.cells #[.int .i64 0, .int .i64 0, .int .i64 0, .int .i64 0, .bool false, .int .i64 0, .int .i64 0, .int .i64 0, .int .i64 0, .int .i64 0, .bool false] 40)) := (((Fr.refl [g] w).alloc _).alloc _).alloc _
    have m0 : Clk (((w.alloc (.cells c.arr 40)).alloc (.cells #[.int .i64 5, .int .i64 n, .bool true] 45)).alloc (.cells #[.int .i64 0, .int .i64 0, .int .i64 0, .int .i64 0, .bool false, .int .i64 0, .int .i64 0, .int .i64 0, .int .i64 0, .int .i64 0, .bool false] 40)) g c := Blk.alloc (Blk.alloc (Blk.alloc m _) _) _
    go_enter Try.func18, Try.ntmps18
    go_upto_region 20 with fail
    generalize ((w.alloc (.cells c.arr 40)).alloc (.cells #[.int .i64 5, .int .i64 n, .bool true] 45)).alloc (.cells #[.int .i64 0, .int .i64 0, .int .i64 0, .int .i64 0, .bool false, .int .i64 0, .int .i64 0, .int .i64 0, .int .i64 0, .int .i64 0, .bool false] 40) = W at *
    go_cut [7] (fun s7 wx => s7 = .bool true ∧ Clk wx g c ∧ Fr [g] w wx ∧ Blk wx (w.heap.size + 1 + 1) 40 c.arr)
    case first =>
      obtain ⟨c0, c1, c2, c3, c4, c5, c6, c7, c8, c9, c10⟩ := cells_of bP
      go_region_held3 (fun w' => w'.cell? ⟨w.heap.size, 0, none⟩ = some (.int .i64 c.f) ∧ w'.cell? ⟨w.heap.size, 1, none⟩ = some (.int .i64 c.l) ∧ w'.cell? ⟨w.heap.size, 2, none⟩ = some (.int .i64 c.m) ∧ w'.cell? ⟨w.heap.size, 3, none⟩ = some (.int .i64 c.t) ∧ w'.cell? ⟨w.heap.size, 4, none⟩ = some (.bool c.is) ∧ w'.cell? ⟨w.heap.size, 5, none⟩ = some (.int .i64 c.tm) ∧ w'.cell? ⟨w.heap.size, 6, none⟩ = some (.int .i64 c.sp) ∧ w'.cell? ⟨w.heap.size, 7, none⟩ = some (.int .i64 c.wt) ∧ w'.cell? ⟨w.heap.size, 8, none⟩ = some (.int .i64 c.si) ∧ w'.cell? ⟨w.heap.size, 9, none⟩ = some (.int .i64 c.tr) ∧ w'.cell? ⟨w.heap.size, 10, none⟩ = some (.bool c.rn)) (first | (with_reducible exact ⟨q0, q1, q2, q3, q4, q5, q6, q7, q8, q9, q10⟩) | (with_reducible exact ⟨s0, s1, s2, s3, s4, s5, s6, s7, s8, s9, s10⟩) | (with_reducible exact ⟨p0, p1, p2, p3, p4, p5, p6, p7, p8, p9, p10⟩) | go_keep)
        (first
        | (go_at_call 13; refine (K1.out _ (Blk.drew m0)).mono ?_; rintro e w1 ⟨rfl, f1⟩; have P1 := Blk.fr (Blk.drew bP) f1 (by simp); have R1 := Blk.fr (Blk.drew bR) f1 (by simp); have M1 : Clk w1 g c := Blk.fr (Blk.drew m0) f1 (by simp); have F1 := Fr.trans (Fr.drew f0) f1 (by simp); obtain ⟨p0, p1, p2, p3, p4, p5, p6, p7, p8, p9, p10⟩ := cells_of P1)
        | (go_at_call 31; refine (K2.out _).mono ?_; rintro e w2 ⟨rfl, f2⟩; have P2 := Blk.fr P1 f2 (by simp); have R2 := Blk.fr R1 f2 (by simp); have M2 : Clk w2 g c := Blk.fr M1 f2 (by simp); have F2 := Fr.trans F1 f2 (by simp); obtain ⟨s0, s1, s2, s3, s4, s5, s6, s7, s8, s9, s10⟩ := cells_of P2; obtain ⟨y0, y1, y2, y3, y4, y5, y6, y7, y8, y9, y10⟩ := cells_of (c := ck0) R2; obtain ⟨z0, z1, z2, z3, z4, z5, z6, z7, z8, z9, z10⟩ := free_of R2; obtain ⟨q0, q1, q2, q3, q4, q5, q6, q7, q8, q9, q10⟩ := cells_of (far11 P2 (by omega : w.heap.size ≠ w.heap.size + 1 + 1) c)))
      go_wp2_with fail
      go_meet
      exact ⟨rfl, far11 M2 (by omega) c, fr11 F2 (Or.inr (by omega)) c, set11 (c := ck0) R2 c⟩
    case rest =>
      obtain ⟨rfl, M3, F3, B3⟩ := hcut
      go_wp2_with fail
      refine ret18 (d := c) B3 rfl rfl rfl ⟨rfl, F3, M3⟩
  · obtain ⟨bP, bX, bR⟩ := three w c.arr #[.int .i64 5, .int .i64 n, .bool true] #[.int .i64 0, .int .i64 0, .int .i64 0, .int .i64 0, .bool false, .int .i64 0, .int .i64 0, .int .i64 0, .int .i64 0, .int .i64 0, .bool false] 40 45 40
    have f0 : Fr [g] w (((w.alloc (.cells c.arr 40)).alloc (.cells #[.int .i64 5, .int .i64 n, .bool true] 45)).alloc (.cells #[.int .i64 0, .int .i64 0, .int .i64 0, .int .i64 0, .bool false, .int .i64 0, .int .i64 0, .int .i64 0, .int .i64 0, .int .i64 0, .bool false] 40)) := (((Fr.refl [g] w).alloc _).alloc _).alloc _
    have m0 : Clk (((w.alloc (.cells c.arr 40)).alloc (.cells #[.int .i64 5, .int .i64 n, .bool true] 45)).alloc (.cells #[.int .i64 0, .int .i64 0, .int .i64 0, .int .i64 0, .bool false, .int .i64 0, .int .i64 0, .int .i64 0, .int .i64 0, .int .i64 0, .bool false] 40)) g c := Blk.alloc (Blk.alloc (Blk.alloc m _) _) _
    go_enter Try.func18, Try.ntmps18
    go_upto_region 20 with fail
    generalize ((w.alloc (.cells c.arr 40)).alloc (.cells #[.int .i64 5, .int .i64 n, .bool true] 45)).alloc (.cells #[.int .i64 0, .int .i64 0, .int .i64 0, .int .i64 0, .bool false, .int .i64 0, .int .i64 0, .int .i64 0, .int .i64 0, .int .i64 0, .bool false] 40) = W at *
    go_cut [7] (fun s7 wx => s7 = .bool true ∧ Clk wx g c ∧ Fr [g] w wx ∧ Blk wx (w.heap.size + 1 + 1) 40 c.arr)
    case first =>
      obtain ⟨c0, c1, c2, c3, c4, c5, c6, c7, c8, c9, c10⟩ := cells_of bP
      go_region_held3 (fun w' => w'.cell? ⟨w.heap.size, 0, none⟩ = some (.int .i64 c.f) ∧ w'.cell? ⟨w.heap.size, 1, none⟩ = some (.int .i64 c.l) ∧ w'.cell? ⟨w.heap.size, 2, none⟩ = some (.int .i64 c.m) ∧ w'.cell? ⟨w.heap.size, 3, none⟩ = some (.int .i64 c.t) ∧ w'.cell? ⟨w.heap.size, 4, none⟩ = some (.bool c.is) ∧ w'.cell? ⟨w.heap.size, 5, none⟩ = some (.int .i64 c.tm) ∧ w'.cell? ⟨w.heap.size, 6, none⟩ = some (.int .i64 c.sp) ∧ w'.cell? ⟨w.heap.size, 7, none⟩ = some (.int .i64 c.wt) ∧ w'.cell? ⟨w.heap.size, 8, none⟩ = some (.int .i64 c.si) ∧ w'.cell? ⟨w.heap.size, 9, none⟩ = some (.int .i64 c.tr) ∧ w'.cell? ⟨w.heap.size, 10, none⟩ = some (.bool c.rn)) (first | (with_reducible exact ⟨q0, q1, q2, q3, q4, q5, q6, q7, q8, q9, q10⟩) | (with_reducible exact ⟨s0, s1, s2, s3, s4, s5, s6, s7, s8, s9, s10⟩) | (with_reducible exact ⟨p0, p1, p2, p3, p4, p5, p6, p7, p8, p9, p10⟩) | go_keep)
        (first
        | (go_at_call 13; refine (K1.out _ (Blk.drew m0)).mono ?_; rintro e w1 ⟨rfl, f1⟩; have P1 := Blk.fr (Blk.drew bP) f1 (by simp); have R1 := Blk.fr (Blk.drew bR) f1 (by simp); have M1 : Clk w1 g c := Blk.fr (Blk.drew m0) f1 (by simp); have F1 := Fr.trans (Fr.drew f0) f1 (by simp); obtain ⟨p0, p1, p2, p3, p4, p5, p6, p7, p8, p9, p10⟩ := cells_of P1)
        | (go_at_call 31; refine (K2.out _).mono ?_; rintro e w2 ⟨rfl, f2⟩; have P2 := Blk.fr P1 f2 (by simp); have R2 := Blk.fr R1 f2 (by simp); have M2 : Clk w2 g c := Blk.fr M1 f2 (by simp); have F2 := Fr.trans F1 f2 (by simp); obtain ⟨s0, s1, s2, s3, s4, s5, s6, s7, s8, s9, s10⟩ := cells_of P2; obtain ⟨y0, y1, y2, y3, y4, y5, y6, y7, y8, y9, y10⟩ := cells_of (c := ck0) R2; obtain ⟨z0, z1, z2, z3, z4, z5, z6, z7, z8, z9, z10⟩ := free_of R2; obtain ⟨q0, q1, q2, q3, q4, q5, q6, q7, q8, q9, q10⟩ := cells_of (far11 P2 (by omega : w.heap.size ≠ w.heap.size + 1 + 1) c)))
      go_wp2_with fail
      go_meet
      exact ⟨rfl, far11 M2 (by omega) c, fr11 F2 (Or.inr (by omega)) c, set11 (c := ck0) R2 c⟩
    case rest =>
      obtain ⟨rfl, M3, F3, B3⟩ := hcut
      go_wp2_with fail
      refine ret18 (d := c) B3 rfl rfl rfl ⟨rfl, F3, M3⟩
  · obtain ⟨bP, bX, bR⟩ := three w c.arr #[.int .i64 5, .int .i64 n, .bool true] #[.int .i64 0, .int .i64 0, .int .i64 0, .int .i64 0, .bool false, .int .i64 0, .int .i64 0, .int .i64 0, .int .i64 0, .int .i64 0, .bool false] 40 45 40
    have f0 : Fr [g] w (((w.alloc (.cells c.arr 40)).alloc (.cells #[.int .i64 5, .int .i64 n, .bool true] 45)).alloc (.cells #[.int .i64 0, .int .i64 0, .int .i64 0, .int .i64 0, .bool false, .int .i64 0, .int .i64 0, .int .i64 0, .int .i64 0, .int .i64 0, .bool false] 40)) := (((Fr.refl [g] w).alloc _).alloc _).alloc _
    have m0 : Clk (((w.alloc (.cells c.arr 40)).alloc (.cells #[.int .i64 5, .int .i64 n, .bool true] 45)).alloc (.cells #[.int .i64 0, .int .i64 0, .int .i64 0, .int .i64 0, .bool false, .int .i64 0, .int .i64 0, .int .i64 0, .int .i64 0, .int .i64 0, .bool false] 40)) g c := Blk.alloc (Blk.alloc (Blk.alloc m _) _) _
    go_enter Try.func18, Try.ntmps18
    go_upto_region 20 with fail
    generalize ((w.alloc (.cells c.arr 40)).alloc (.cells #[.int .i64 5, .int .i64 n, .bool true] 45)).alloc (.cells #[.int .i64 0, .int .i64 0, .int .i64 0, .int .i64 0, .bool false, .int .i64 0, .int .i64 0, .int .i64 0, .int .i64 0, .int .i64 0, .bool false] 40) = W at *
    go_cut [7] (fun s7 wx => s7 = .bool true ∧ Clk wx g c ∧ Fr [g] w wx ∧ Blk wx (w.heap.size + 1 + 1) 40 c.arr)
    case first =>
      obtain ⟨c0, c1, c2, c3, c4, c5, c6, c7, c8, c9, c10⟩ := cells_of bP
      go_region_held3 (fun w' => w'.cell? ⟨w.heap.size, 0, none⟩ = some (.int .i64 c.f) ∧ w'.cell? ⟨w.heap.size, 1, none⟩ = some (.int .i64 c.l) ∧ w'.cell? ⟨w.heap.size, 2, none⟩ = some (.int .i64 c.m) ∧ w'.cell? ⟨w.heap.size, 3, none⟩ = some (.int .i64 c.t) ∧ w'.cell? ⟨w.heap.size, 4, none⟩ = some (.bool c.is) ∧ w'.cell? ⟨w.heap.size, 5, none⟩ = some (.int .i64 c.tm) ∧ w'.cell? ⟨w.heap.size, 6, none⟩ = some (.int .i64 c.sp) ∧ w'.cell? ⟨w.heap.size, 7, none⟩ = some (.int .i64 c.wt) ∧ w'.cell? ⟨w.heap.size, 8, none⟩ = some (.int .i64 c.si) ∧ w'.cell? ⟨w.heap.size, 9, none⟩ = some (.int .i64 c.tr) ∧ w'.cell? ⟨w.heap.size, 10, none⟩ = some (.bool c.rn)) (first | (with_reducible exact ⟨q0, q1, q2, q3, q4, q5, q6, q7, q8, q9, q10⟩) | (with_reducible exact ⟨s0, s1, s2, s3, s4, s5, s6, s7, s8, s9, s10⟩) | (with_reducible exact ⟨p0, p1, p2, p3, p4, p5, p6, p7, p8, p9, p10⟩) | go_keep)
        (first
        | (go_at_call 13; refine (K1.out _ (Blk.drew m0)).mono ?_; rintro e w1 ⟨rfl, f1⟩; have P1 := Blk.fr (Blk.drew bP) f1 (by simp); have R1 := Blk.fr (Blk.drew bR) f1 (by simp); have M1 : Clk w1 g c := Blk.fr (Blk.drew m0) f1 (by simp); have F1 := Fr.trans (Fr.drew f0) f1 (by simp); obtain ⟨p0, p1, p2, p3, p4, p5, p6, p7, p8, p9, p10⟩ := cells_of P1)
        | (go_at_call 31; refine (K2.out _).mono ?_; rintro e w2 ⟨rfl, f2⟩; have P2 := Blk.fr P1 f2 (by simp); have R2 := Blk.fr R1 f2 (by simp); have M2 : Clk w2 g c := Blk.fr M1 f2 (by simp); have F2 := Fr.trans F1 f2 (by simp); obtain ⟨s0, s1, s2, s3, s4, s5, s6, s7, s8, s9, s10⟩ := cells_of P2; obtain ⟨y0, y1, y2, y3, y4, y5, y6, y7, y8, y9, y10⟩ := cells_of (c := ck0) R2; obtain ⟨z0, z1, z2, z3, z4, z5, z6, z7, z8, z9, z10⟩ := free_of R2; obtain ⟨q0, q1, q2, q3, q4, q5, q6, q7, q8, q9, q10⟩ := cells_of (far11 P2 (by omega : w.heap.size ≠ w.heap.size + 1 + 1) c)))
      go_wp2_with fail
      go_meet
      exact ⟨rfl, far11 M2 (by omega) c, fr11 F2 (Or.inr (by omega)) c, set11 (c := ck0) R2 c⟩
    case rest =>
      obtain ⟨rfl, M3, F3, B3⟩ := hcut
      go_wp2_with fail
      refine ret18 (d := c) B3 rfl rfl rfl ⟨rfl, F3, M3⟩
end Go.Proofs.Ytkpgkoeclhlidaa
