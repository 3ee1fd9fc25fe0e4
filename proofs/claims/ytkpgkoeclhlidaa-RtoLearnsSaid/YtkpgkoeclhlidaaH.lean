import Derived.Test.YtkpgkoeclhlidaaKit4
import Derived.Test.YtkpgkoeclhlidaaG
namespace Go.Proofs.Ytkpgkoeclhlidaa
open Go.RowKit

theorem arr_one (d : Ck) : d.arr.all (·.oneCell') = true := by simp [Value.oneCell']

theorem nearN_ways (c : Ck) (n : Int) (near : Bool) : (near = false ∧ n = nearN c n near) ∨ (near = true ∧ n < -100 ∧ n = nearN c n near) ∨ (near = true ∧ -100 ≤ n ∧ 100 < n ∧ n = nearN c n near) ∨ (near = true ∧ -100 ≤ n ∧ n ≤ 100 ∧ n + c.si + c.wt = nearN c n near) := by
  unfold nearN
  cases near
  · exact .inl ⟨rfl, by simp⟩
  · by_cases h1 : n < -100
    · exact .inr (.inl ⟨rfl, h1, by rw [if_neg (by omega)]⟩)
    · by_cases h2 : 100 < n
      · exact .inr (.inr (.inl ⟨rfl, by omega, h2, by rw [if_neg (by omega)]⟩))
      · exact .inr (.inr (.inr ⟨rfl, by omega, by omega, by rw [if_pos ⟨rfl, by omega, by omega⟩]⟩))

set_option maxRecDepth 100000 in
set_option maxHeartbeats 4000000 in
theorem does_1 (g : Nat) (c : Ck) (n : Int) (near : Bool) (w : World) (m : Clk w g c) (hi : Inv c) :
    Calls Try.prog 18 #[ptr g, agC c, agA 1 n near] w fun e w' => e = .returned (.tuple #[agC ((sampleV c n).1), .bool true]) ∧ Fr [g] w w' ∧ Clk w' g ((sampleV c n).1) := by
  have hg := Blk.lt m
  obtain ⟨l1, lf, fm, m1, t1, t2, tm0, tm1, sp0, sp1, w1, w2, s0, s1, r0, r1⟩ := id hi
  have hw := nearN_ways c n near
  have k1 := fun W mW => sample_clk g c n W mW hi
  have k2 := fun W => rsample c n W hi
  revert k1 k2
  generalize sampleV c n = T
  intro k1 k2
  obtain ⟨d, e⟩ := T
  dsimp only at k1 k2 ⊢
  have K1 : Hid _ := k1
  have K2 : Hid _ := k2
  clear k1 k2
  generalize nearN c n near = N at *
  rcases hw with ⟨rfl, rfl⟩ | ⟨rfl, h1, rfl⟩ | ⟨rfl, h1, h2, rfl⟩ | ⟨rfl, h1, h2, rfl⟩
  · obtain ⟨bP, bX, bR⟩ := three w c.arr #[.int .i64 1, .int .i64 n, .bool false] ck0.arr 40 45 40
    have f0 : Fr [g] w (((w.alloc (.cells c.arr 40)).alloc (.cells #[.int .i64 1, .int .i64 n, .bool false] 45)).alloc (.cells ck0.arr 40)) := (((Fr.refl [g] w).alloc _).alloc _).alloc _
    have m0 : Clk (((w.alloc (.cells c.arr 40)).alloc (.cells #[.int .i64 1, .int .i64 n, .bool false] 45)).alloc (.cells ck0.arr 40)) g c := Blk.alloc (Blk.alloc (Blk.alloc m _) _) _
    go_enter Try.func18, Try.ntmps18
    go_wp2_with fail
    refine (K1.out _ m0).mono ?_
    rintro e w1 ⟨rfl, f1, M1⟩
    have P1 := Blk.fr bP f1 (by simp; omega)
    have X1 := Blk.fr bX f1 (by simp; omega)
    have R1 := Blk.fr bR f1 (by simp; omega)
    have F1 : Fr [g] w w1 := Fr.trans f0 f1 (by simp)
    have q1 : w1.cell? ⟨w.heap.size + 1, 1, none⟩ = some (.int .i64 n) := by simpa using Blk.cell X1 1
    obtain ⟨p0, p1, p2, p3, p4, p5, p6, p7, p8, p9, p10⟩ := cells_of P1
    clear bP bX bR f0 m0 f1
    go_wp2_with fail
    refine (K2.out _).mono ?_
    rintro e w2 ⟨rfl, f2⟩
    have R2 := Blk.fr R1 f2 (by simp)
    have M2 : Clk w2 g d := Blk.fr M1 f2 (by simp)
    have F2 : Fr [g] w w2 := F1.trans f2 (by simp)
    clear R1 M1 F1 f2 p0 p1 p2 p3 p4 p5 p6 p7 p8 p9 p10 q1 P1 X1
    go_wp2_with ((with_reducible refine gate_store 40 (.tmp 6) ?_); refine wpList_store_blk rfl 40 (.tmp 6) _ rfl (w.heap.size + 1 + 1) 40 ck0.arr d.arr rfl rfl (Blk.alloc R2 _) rfl (by kernel_rfl) (arr_one d) ?_; intro w3 B3 F3)
    refine ret18 (d := d) B3 rfl rfl rfl ⟨rfl, Fr.trans (F2.alloc _) F3 (by simp; omega), Blk.fr (Blk.alloc M2 _) F3 (by simp; omega)⟩
  · obtain ⟨bP, bX, bR⟩ := three w c.arr #[.int .i64 1, .int .i64 n, .bool true] ck0.arr 40 45 40
    have f0 : Fr [g] w (((w.alloc (.cells c.arr 40)).alloc (.cells #[.int .i64 1, .int .i64 n, .bool true] 45)).alloc (.cells ck0.arr 40)) := (((Fr.refl [g] w).alloc _).alloc _).alloc _
    have m0 : Clk (((w.alloc (.cells c.arr 40)).alloc (.cells #[.int .i64 1, .int .i64 n, .bool true] 45)).alloc (.cells ck0.arr 40)) g c := Blk.alloc (Blk.alloc (Blk.alloc m _) _) _
    go_enter Try.func18, Try.ntmps18
    go_wp2_with fail
    refine (K1.out _ m0).mono ?_
    rintro e w1 ⟨rfl, f1, M1⟩
    have P1 := Blk.fr bP f1 (by simp; omega)
    have X1 := Blk.fr bX f1 (by simp; omega)
    have R1 := Blk.fr bR f1 (by simp; omega)
    have F1 : Fr [g] w w1 := Fr.trans f0 f1 (by simp)
    have q1 : w1.cell? ⟨w.heap.size + 1, 1, none⟩ = some (.int .i64 n) := by simpa using Blk.cell X1 1
    obtain ⟨p0, p1, p2, p3, p4, p5, p6, p7, p8, p9, p10⟩ := cells_of P1
    clear bP bX bR f0 m0 f1
    go_wp2_with fail
    refine (K2.out _).mono ?_
    rintro e w2 ⟨rfl, f2⟩
    have R2 := Blk.fr R1 f2 (by simp)
    have M2 : Clk w2 g d := Blk.fr M1 f2 (by simp)
    have F2 : Fr [g] w w2 := F1.trans f2 (by simp)
    clear R1 M1 F1 f2 p0 p1 p2 p3 p4 p5 p6 p7 p8 p9 p10 q1 P1 X1
    go_wp2_with ((with_reducible refine gate_store 40 (.tmp 6) ?_); refine wpList_store_blk rfl 40 (.tmp 6) _ rfl (w.heap.size + 1 + 1) 40 ck0.arr d.arr rfl rfl (Blk.alloc R2 _) rfl (by kernel_rfl) (arr_one d) ?_; intro w3 B3 F3)
    refine ret18 (d := d) B3 rfl rfl rfl ⟨rfl, Fr.trans (F2.alloc _) F3 (by simp; omega), Blk.fr (Blk.alloc M2 _) F3 (by simp; omega)⟩
  · obtain ⟨bP, bX, bR⟩ := three w c.arr #[.int .i64 1, .int .i64 n, .bool true] ck0.arr 40 45 40
    have f0 : Fr [g] w (((w.alloc (.cells c.arr 40)).alloc (.cells #[.int .i64 1, .int .i64 n, .bool true] 45)).alloc (.cells ck0.arr 40)) := (((Fr.refl [g] w).alloc _).alloc _).alloc _
    have m0 : Clk (((w.alloc (.cells c.arr 40)).alloc (.cells #[.int .i64 1, .int .i64 n, .bool true] 45)).alloc (.cells ck0.arr 40)) g c := Blk.alloc (Blk.alloc (Blk.alloc m _) _) _
    go_enter Try.func18, Try.ntmps18
    go_wp2_with fail
    refine (K1.out _ m0).mono ?_
    rintro e w1 ⟨rfl, f1, M1⟩
    have P1 := Blk.fr bP f1 (by simp; omega)
    have X1 := Blk.fr bX f1 (by simp; omega)
    have R1 := Blk.fr bR f1 (by simp; omega)
    have F1 : Fr [g] w w1 := Fr.trans f0 f1 (by simp)
    have q1 : w1.cell? ⟨w.heap.size + 1, 1, none⟩ = some (.int .i64 n) := by simpa using Blk.cell X1 1
    obtain ⟨p0, p1, p2, p3, p4, p5, p6, p7, p8, p9, p10⟩ := cells_of P1
    clear bP bX bR f0 m0 f1
    go_wp2_with fail
    refine (K2.out _).mono ?_
    rintro e w2 ⟨rfl, f2⟩
    have R2 := Blk.fr R1 f2 (by simp)
    have M2 : Clk w2 g d := Blk.fr M1 f2 (by simp)
    have F2 : Fr [g] w w2 := F1.trans f2 (by simp)
    clear R1 M1 F1 f2 p0 p1 p2 p3 p4 p5 p6 p7 p8 p9 p10 q1 P1 X1
    go_wp2_with ((with_reducible refine gate_store 40 (.tmp 6) ?_); refine wpList_store_blk rfl 40 (.tmp 6) _ rfl (w.heap.size + 1 + 1) 40 ck0.arr d.arr rfl rfl (Blk.alloc R2 _) rfl (by kernel_rfl) (arr_one d) ?_; intro w3 B3 F3)
    refine ret18 (d := d) B3 rfl rfl rfl ⟨rfl, Fr.trans (F2.alloc _) F3 (by simp; omega), Blk.fr (Blk.alloc M2 _) F3 (by simp; omega)⟩
  · obtain ⟨bP, bX, bR⟩ := three w c.arr #[.int .i64 1, .int .i64 n, .bool true] ck0.arr 40 45 40
    have f0 : Fr [g] w (((w.alloc (.cells c.arr 40)).alloc (.cells #[.int .i64 1, .int .i64 n, .bool true] 45)).alloc (.cells ck0.arr 40)) := (((Fr.refl [g] w).alloc _).alloc _).alloc _
    have m0 : Clk (((w.alloc (.cells c.arr 40)).alloc (.cells #[.int .i64 1, .int .i64 n, .bool true] 45)).alloc (.cells ck0.arr 40)) g c := Blk.alloc (Blk.alloc (Blk.alloc m _) _) _
    go_enter Try.func18, Try.ntmps18
    go_wp2_with fail
    refine (K1.out _ m0).mono ?_
    rintro e w1 ⟨rfl, f1, M1⟩
    have P1 := Blk.fr bP f1 (by simp; omega)
    have X1 := Blk.fr bX f1 (by simp; omega)
    have R1 := Blk.fr bR f1 (by simp; omega)
    have F1 : Fr [g] w w1 := Fr.trans f0 f1 (by simp)
    have q1 : w1.cell? ⟨w.heap.size + 1, 1, none⟩ = some (.int .i64 n) := by simpa using Blk.cell X1 1
    obtain ⟨p0, p1, p2, p3, p4, p5, p6, p7, p8, p9, p10⟩ := cells_of P1
    clear bP bX bR f0 m0 f1
    go_wp2_with fail
    refine (K2.out _).mono ?_
    rintro e w2 ⟨rfl, f2⟩
    have R2 := Blk.fr R1 f2 (by simp)
    have M2 : Clk w2 g d := Blk.fr M1 f2 (by simp)
    have F2 : Fr [g] w w2 := F1.trans f2 (by simp)
    clear R1 M1 F1 f2 p0 p1 p2 p3 p4 p5 p6 p7 p8 p9 p10 q1 P1 X1
    go_wp2_with ((with_reducible refine gate_store 40 (.tmp 6) ?_); refine wpList_store_blk rfl 40 (.tmp 6) _ rfl (w.heap.size + 1 + 1) 40 ck0.arr d.arr rfl rfl (Blk.alloc R2 _) rfl (by kernel_rfl) (arr_one d) ?_; intro w3 B3 F3)
    refine ret18 (d := d) B3 rfl rfl rfl ⟨rfl, Fr.trans (F2.alloc _) F3 (by simp; omega), Blk.fr (Blk.alloc M2 _) F3 (by simp; omega)⟩

end Go.Proofs.Ytkpgkoeclhlidaa
