import Derived.Test.YthhageigbonoaaaF
namespace Go.Proofs.Ythhageigbonoaaa
open Go.RowKit
theorem far4 {w : World} {b c j : Nat} {v : Value} (h : w.cell? ⟨b, j, none⟩ = some v) (hne : b ≠ c) (d0 d1 d2 d3 : Value) :
    ((((w.setCell ⟨c, 0, none⟩ d0).setCell ⟨c, 1, none⟩ d1).setCell ⟨c, 2, none⟩ d2).setCell ⟨c, 3, none⟩ d3).cell? ⟨b, j, none⟩ = some v := by
  have e : ∀ (W : World) (i : Nat) (u : Value), (W.setCell ⟨c, i, none⟩ u).cell? ⟨b, j, none⟩ = W.cell? ⟨b, j, none⟩ := fun W i u => World.cell?_setCell_other W _ _ u (fun h => by injection h with h1; omega)
  rw [e, e, e, e, h]
set_option maxRecDepth 100000 in
theorem does_3 (g : Nat) (x : Wn) (n r : Int) (near : Bool) (w : World) (m : Win w g x true) :
    Calls Try.prog 12 #[ptr g, agW x, agA 3 n r near] w fun e w' => e = .returned (.tuple #[agW (backV x), .bool true]) ∧ Fr [g] w w' ∧ Win w' g (backV x) true := by
  have hg := Blk.lt m
  obtain ⟨bA, bB, bC⟩ := three w #[.int .i64 x.a, .int .i64 x.a, .int .i64 x.m, .int .i64 x.l] #[.int .i64 3, .int .i64 n, .int .i64 r, .bool near] #[.int .i64 0, .int .i64 0, .int .i64 0, .int .i64 0] 33 37 33
  have m0 : Win (((w.alloc (.cells #[.int .i64 x.a, .int .i64 x.a, .int .i64 x.m, .int .i64 x.l] 33)).alloc (.cells #[.int .i64 3, .int .i64 n, .int .i64 r, .bool near] 37)).alloc (.cells #[.int .i64 0, .int .i64 0, .int .i64 0, .int .i64 0] 33)) g x true := Blk.alloc (Blk.alloc (Blk.alloc m _) _) _
  have f0 : Fr [g] w (((w.alloc (.cells #[.int .i64 x.a, .int .i64 x.a, .int .i64 x.m, .int .i64 x.l] 33)).alloc (.cells #[.int .i64 3, .int .i64 n, .int .i64 r, .bool near] 37)).alloc (.cells #[.int .i64 0, .int .i64 0, .int .i64 0, .int .i64 0] 33)) := (((Fr.refl [g] w).alloc _).alloc _).alloc _
  go_enter Try.func12, Try.ntmps12
  go_wp2_with fail
  generalize (((w.alloc (.cells #[.int .i64 x.a, .int .i64 x.a, .int .i64 x.m, .int .i64 x.l] 33)).alloc (.cells #[.int .i64 3, .int .i64 n, .int .i64 r, .bool near] 37)).alloc (.cells #[.int .i64 0, .int .i64 0, .int .i64 0, .int .i64 0] 33)) = W at *
  have hs := Blk.lt bC
  obtain ⟨p0, p1, p2, p3⟩ := four (x := ⟨x.a, x.a, x.m, x.l⟩) bA
  dsimp only at p0 p1 p2 p3
  go_region_held3 (fun w' => w'.cell? ⟨w.heap.size, 0, none⟩ = some (.int .i64 x.a) ∧ w'.cell? ⟨w.heap.size, 1, none⟩ = some (.int .i64 x.a) ∧ w'.cell? ⟨w.heap.size, 2, none⟩ = some (.int .i64 x.m) ∧ w'.cell? ⟨w.heap.size, 3, none⟩ = some (.int .i64 x.l)) (first | (with_reducible exact ⟨s0, s1, s2, s3⟩) | exact ⟨far4 s0 (by omega) _ _ _ _, far4 s1 (by omega) _ _ _ _, far4 s2 (by omega) _ _ _ _, far4 s3 (by omega) _ _ _ _⟩ | go_keep) (first | (go_at_call 23; refine (back_win g x _ (by exact Blk.drew m0)).mono ?_; rintro e w1 ⟨rfl, f1, m1⟩; have bA1 := Blk.fr (Blk.drew bA) f1 (by simp; omega); obtain ⟨s0, s1, s2, s3⟩ := four (x := ⟨x.a, x.a, x.m, x.l⟩) bA1; have bC1 := Blk.fr (Blk.drew bC) f1 (by simp; omega); have hz1 := Blk.lt bC1; obtain ⟨q0, q1, q2, q3⟩ := four (x := ⟨0, 0, 0, 0⟩) bC1; have z0 := Blk.frozen bC1 0; have z1 := Blk.frozen bC1 1; have z2 := Blk.frozen bC1 2; have z3 := Blk.frozen bC1 3))
  have f2 : Fr [g] w w1 := Fr.trans f0.drew f1 (by simp)
  go_wp2
  refine ret12 (y := backV x) (set4 bC1 _ _ _ _) rfl rfl rfl ⟨rfl, ?_, ?_⟩
  · refine Fr.setCell (Fr.setCell (Fr.setCell (Fr.setCell f2 ?_ _) ?_ _) ?_ _) ?_ _ <;> exact Or.inr (by simp; omega)
  · refine Blk.far (Blk.far (Blk.far (Blk.far m1 ?_ _) ?_ _) ?_ _) ?_ _ <;> (simp; omega)

theorem nearN_ways (x : Wn) (n : Int) (near : Bool) : (near = false ∧ n = nearN x n near) ∨ (near = true ∧ n < -1000 ∧ n = nearN x n near) ∨ (near = true ∧ -1000 ≤ n ∧ 100000 < n ∧ n = nearN x n near) ∨ (near = true ∧ -1000 ≤ n ∧ n ≤ 100000 ∧ n + x.a = nearN x n near) := by
  unfold nearN
  cases near
  · exact .inl ⟨rfl, by simp⟩
  · by_cases h1 : n < -1000
    · exact .inr (.inl ⟨rfl, h1, by rw [if_neg (by omega)]⟩)
    · by_cases h2 : 100000 < n
      · exact .inr (.inr (.inl ⟨rfl, by omega, h2, by rw [if_neg (by omega)]⟩))
      · exact .inr (.inr (.inr ⟨rfl, by omega, by omega, by rw [if_pos ⟨rfl, by omega, by omega⟩]⟩))

set_option maxRecDepth 100000 in
set_option maxHeartbeats 4000000 in
theorem does_2 (g : Nat) (x : Wn) (n r : Int) (near : Bool) (w : World) (B : Int) (hB : B ≤ 1000000000) (hi : Inv B x) (m : Win w g x true) :
    Calls Try.prog 12 #[ptr g, agW x, agA 2 n r near] w fun e w' => e = .returned (.tuple #[agW (ackV x (nearN x n near) r).1, .bool true]) ∧ Fr [g] w w' ∧ Win w' g (ackV x (nearN x n near) r).1 true := by
  have hg := Blk.lt m
  obtain ⟨i0, i1, i2, i3, i4⟩ := hi.bd
  have hw := nearN_ways x n near
  generalize nearN x n near = N at *
  have k1 := fun W hW => ack_win g x N r W B hB hi hW
  have k2 := fun W => rack x N r W B hB hi
  revert k1 k2
  generalize ackV x N r = T
  intro k1 k2
  obtain ⟨y, a, e⟩ := T
  dsimp only at k1 k2 ⊢
  have K1 : Hid _ := k1
  have K2 : Hid _ := k2
  clear k1 k2
  rcases hw with ⟨rfl, rfl⟩ | ⟨rfl, h1, rfl⟩ | ⟨rfl, h1, h2, rfl⟩ | ⟨rfl, h1, h2, rfl⟩
  all_goals
    go_enter Try.func12, Try.ntmps12
    go_wp2_with fail
  focus
    obtain ⟨bA, bB, bC⟩ := three w #[.int .i64 x.a, .int .i64 x.s, .int .i64 x.m, .int .i64 x.l] #[.int .i64 2, .int .i64 n, .int .i64 r, .bool false] #[.int .i64 0, .int .i64 0, .int .i64 0, .int .i64 0] 33 37 33
    refine (K1.out _ (Blk.alloc (Blk.alloc (Blk.alloc m _) _) _)).mono ?_
    rintro e w1 ⟨rfl, f1, m1⟩
    have f1' : Fr [g] w w1 := Fr.trans (((Fr.refl [g] w).alloc _).alloc _ |>.alloc _) f1 (by simp)
    have cA := Blk.fr bA f1 (by simp; omega)
    have cB := Blk.fr bB f1 (by simp; omega)
    have cC := Blk.fr bC f1 (by simp; omega)
    obtain ⟨p0, p1, p2, p3⟩ := four cA
    have q2 : w1.cell? ⟨w.heap.size + 1, 2, none⟩ = some (.int .i64 r) := by simpa using Blk.cell cB 2
    clear bA bB bC f1
    go_wp2_with fail
    refine (K2.out _).mono ?_
    rintro e w2 ⟨rfl, f2⟩
    have cC2 := Blk.fr cC f2 (by simp)
    have m2 : Win w2 g y true := Blk.fr m1 f2 (by simp)
    have f2' : Fr [g] w w2 := f1'.trans f2 (by simp)
    obtain ⟨p0, p1, p2, p3⟩ := four (x := ⟨0, 0, 0, 0⟩) cC2
    have z0 := Blk.frozen cC2 0
    have z1 := Blk.frozen cC2 1
    have z2 := Blk.frozen cC2 2
    have z3 := Blk.frozen cC2 3
    have hz2 := Blk.lt cC2
    go_wp2
    refine ret12 (y := y) (Blk.alloc (set4 cC2 _ _ _ _) _) rfl rfl rfl ⟨rfl, ?_, ?_⟩
    · refine Fr.alloc (Fr.setCell (Fr.setCell (Fr.setCell (Fr.setCell f2' ?_ _) ?_ _) ?_ _) ?_ _) _ <;> exact Or.inr (by simp; omega)
    · refine Blk.alloc (Blk.far (Blk.far (Blk.far (Blk.far m2 ?_ _) ?_ _) ?_ _) ?_ _) _ <;> (simp; omega)
  all_goals
    obtain ⟨bA, bB, bC⟩ := three w #[.int .i64 x.a, .int .i64 x.s, .int .i64 x.m, .int .i64 x.l] #[.int .i64 2, .int .i64 n, .int .i64 r, .bool true] #[.int .i64 0, .int .i64 0, .int .i64 0, .int .i64 0] 33 37 33
    refine (K1.out _ (Blk.alloc (Blk.alloc (Blk.alloc m _) _) _)).mono ?_
    rintro e w1 ⟨rfl, f1, m1⟩
    have f1' : Fr [g] w w1 := Fr.trans (((Fr.refl [g] w).alloc _).alloc _ |>.alloc _) f1 (by simp)
    have cA := Blk.fr bA f1 (by simp; omega)
    have cB := Blk.fr bB f1 (by simp; omega)
    have cC := Blk.fr bC f1 (by simp; omega)
    obtain ⟨p0, p1, p2, p3⟩ := four cA
    have q2 : w1.cell? ⟨w.heap.size + 1, 2, none⟩ = some (.int .i64 r) := by simpa using Blk.cell cB 2
    clear bA bB bC f1
    go_wp2_with fail
    refine (K2.out _).mono ?_
    rintro e w2 ⟨rfl, f2⟩
    have cC2 := Blk.fr cC f2 (by simp)
    have m2 : Win w2 g y true := Blk.fr m1 f2 (by simp)
    have f2' : Fr [g] w w2 := f1'.trans f2 (by simp)
    obtain ⟨p0, p1, p2, p3⟩ := four (x := ⟨0, 0, 0, 0⟩) cC2
    have z0 := Blk.frozen cC2 0
    have z1 := Blk.frozen cC2 1
    have z2 := Blk.frozen cC2 2
    have z3 := Blk.frozen cC2 3
    have hz2 := Blk.lt cC2
    go_wp2
    refine ret12 (y := y) (Blk.alloc (set4 cC2 _ _ _ _) _) rfl rfl rfl ⟨rfl, ?_, ?_⟩
    · refine Fr.alloc (Fr.setCell (Fr.setCell (Fr.setCell (Fr.setCell f2' ?_ _) ?_ _) ?_ _) ?_ _) _ <;> exact Or.inr (by simp; omega)
    · refine Blk.alloc (Blk.far (Blk.far (Blk.far (Blk.far m2 ?_ _) ?_ _) ?_ _) ?_ _) _ <;> (simp; omega)

set_option maxRecDepth 100000 in
theorem does_0 (g : Nat) (x : Wn) (k n r : Int) (near : Bool) (w : World) (m : Win w g x true) (h1 : k ≠ 1) (h2 : k ≠ 2) (h3 : k ≠ 3) (h4 : k ≠ 4) :
    Calls Try.prog 12 #[ptr g, agW x, agA k n r near] w fun e w' => e = .returned (.tuple #[agW x, .bool true]) ∧ Fr [g] w w' ∧ Win w' g x true := by
  have hg := Blk.lt m
  obtain ⟨bA, bB, bC⟩ := three w #[.int .i64 x.a, .int .i64 x.s, .int .i64 x.m, .int .i64 x.l] #[.int .i64 k, .int .i64 n, .int .i64 r, .bool near] #[.int .i64 x.a, .int .i64 x.s, .int .i64 x.m, .int .i64 x.l] 33 37 33
  have e1 : (k == 1) = false := by simpa using h1
  have e2 : (k == 2) = false := by simpa using h2
  have e3 : (k == 3) = false := by simpa using h3
  have e4 : (k == 4) = false := by simpa using h4
  clear h1 h2 h3 h4
  go_enter Try.func12, Try.ntmps12
  go_wp2
  refine ret12 (y := x) bC rfl rfl rfl ⟨rfl, ?_, ?_⟩
  · exact (((Fr.refl [g] w).alloc _).alloc _).alloc _
  · exact Blk.alloc (Blk.alloc (Blk.alloc m _) _) _

theorem does_any (g : Nat) (x : Wn) (k n r : Int) (near : Bool) (w : World) (B : Int) (hB : B ≤ 1000000000) (hi : Inv B x) (m : Win w g x true) :
    Calls Try.prog 12 #[ptr g, agW x, agA k n r near] w fun e w' => e = .returned (.tuple #[agW (doesV x k n r near), .bool true]) ∧ Fr [g] w w' ∧ Win w' g (doesV x k n r near) true := by
  unfold doesV
  by_cases h1 : k = 1
  · subst h1; rw [if_pos rfl]; exact does_1 g x n r near w B hB hi m
  rw [if_neg h1]
  by_cases h2 : k = 2
  · subst h2; rw [if_pos rfl]; exact does_2 g x n r near w B hB hi m
  rw [if_neg h2]
  by_cases h3 : k = 3
  · subst h3; rw [if_pos rfl]; exact does_3 g x n r near w m
  rw [if_neg h3]
  by_cases h4 : k = 4
  · subst h4; rw [if_pos rfl]; exact does_4 g x n r near w B hB hi m
  rw [if_neg h4]
  exact does_0 g x k n r near w m h1 h2 h3 h4

theorem does_inv (x : Wn) (k n r : Int) (near : Bool) (B : Int) (hi : Inv B x) : Inv (B + 65536) (doesV x k n r near) ∧ x.a ≤ (doesV x k n r near).a ∧ x.m ≤ (doesV x k n r near).m ∧ x.l ≤ (doesV x k n r near).l := by
  obtain ⟨i0, i1, i2, i3, i4⟩ := hi
  unfold doesV Inv
  split
  · unfold takeV roomV
    (repeat' split) <;> dsimp only at * <;> omega
  split
  · generalize nearN x n near = N
    unfold ackV
    (repeat' split) <;> dsimp only at * <;> omega
  split
  · unfold backV
    dsimp only at *
    omega
  split
  · unfold probeV zeroV
    split
    · rename_i h
      simp at h
      dsimp only at *
      omega
    · dsimp only at *
      omega
  · omega
end Go.Proofs.Ythhageigbonoaaa
