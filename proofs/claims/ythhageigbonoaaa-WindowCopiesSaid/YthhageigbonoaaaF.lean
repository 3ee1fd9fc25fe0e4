import Derived.Test.YthhageigbonoaaaE
namespace Go.Proofs.Ythhageigbonoaaa
open Go.RowKit

def nearN (x : Wn) (n : Int) (near : Bool) : Int := if near = true ∧ -1000 ≤ n ∧ n ≤ 100000 then n + x.a else n
def doesV (x : Wn) (k n r : Int) (near : Bool) : Wn :=
  if k = 1 then (takeV x n).1 else if k = 2 then (ackV x (nearN x n near) r).1 else if k = 3 then backV x else if k = 4 then (probeV x).1 else x
abbrev agA (k n r : Int) (near : Bool) : Value := .agg #[.int .i64 k, .int .i64 n, .int .i64 r, .bool near]

theorem three (w : World) (A B C : Array Value) (a b c : TypeId) : Blk (((w.alloc (.cells A a)).alloc (.cells B b)).alloc (.cells C c)) w.heap.size a A ∧
    Blk (((w.alloc (.cells A a)).alloc (.cells B b)).alloc (.cells C c)) (w.heap.size + 1) b B ∧ Blk (((w.alloc (.cells A a)).alloc (.cells B b)).alloc (.cells C c)) (w.heap.size + 1 + 1) c C := by
  have h2 : (w.alloc (.cells A a)).heap.size = w.heap.size + 1 := by simp
  have h3 : ((w.alloc (.cells A a)).alloc (.cells B b)).heap.size = w.heap.size + 1 + 1 := by simp
  refine ⟨Blk.alloc (Blk.alloc (Blk.new _ _ _) _) _, ?_, ?_⟩
  · have := Blk.alloc (Blk.new (w.alloc (.cells A a)) b B) (.cells C c)
    rwa [h2] at this
  · have := Blk.new ((w.alloc (.cells A a)).alloc (.cells B b)) c C
    rwa [h3] at this

/-- The four cells of a block that holds a window's places, and that they may be written. -/
theorem four {w : World} {b : Nat} {t : TypeId} {x : Wn} (h : Blk w b t #[.int .i64 x.a, .int .i64 x.s, .int .i64 x.m, .int .i64 x.l]) :
    w.cell? ⟨b, 0, none⟩ = some (.int .i64 x.a) ∧ w.cell? ⟨b, 1, none⟩ = some (.int .i64 x.s) ∧ w.cell? ⟨b, 2, none⟩ = some (.int .i64 x.m) ∧ w.cell? ⟨b, 3, none⟩ = some (.int .i64 x.l) :=
  ⟨by simpa using Blk.cell h 0, by simpa using Blk.cell h 1, by simpa using Blk.cell h 2, by simpa using Blk.cell h 3⟩

theorem set4 {w : World} {b : Nat} {t : TypeId} {c0 c1 c2 c3 : Value} (h : Blk w b t #[c0, c1, c2, c3]) (d0 d1 d2 d3 : Value) :
    Blk ((((w.setCell ⟨b, 0, none⟩ d0).setCell ⟨b, 1, none⟩ d1).setCell ⟨b, 2, none⟩ d2).setCell ⟨b, 3, none⟩ d3) b t #[d0, d1, d2, d3] := by
  have := Blk.set_ (Blk.set_ (Blk.set_ (Blk.set_ h 0 d0) 1 d1) 2 d2) 3 d3
  simpa using this

/-- does' return. -/
theorem ret12 {R : Ending → World → Prop} {a : Act} {W : World} {b : Nat} {y : Wn} {c : Bool} (hB : Blk W b 33 #[.int .i64 y.a, .int .i64 y.s, .int .i64 y.m, .int .i64 y.l])
    (h6 : a.tmps.getD 6 undef = .pointer (some ⟨b, 0, none⟩)) (h7 : a.tmps.getD 7 undef = .bool c) (hd : a.defers = []) (hR : R (.returned (.tuple #[agW y, .bool c])) W) : bodyPost Try.prog Try.f12 R .ret a W := by
  obtain ⟨r0, r1, r2, r3⟩ := four hB
  refine bodyPost_ret (v := .tuple #[agW y, .bool c]) ?_ hd hR
  simp only [Array.getD_eq_getD_getElem?] at h6 h7
  simp [results, Try.results12, go_sem, r0, r1, r2, r3, h6, h7]

set_option maxRecDepth 100000 in
theorem does_1 (g : Nat) (x : Wn) (n r : Int) (near : Bool) (w : World) (B : Int) (hB : B ≤ 1000000000) (hi : Inv B x) (m : Win w g x true) :
    Calls Try.prog 12 #[ptr g, agW x, agA 1 n r near] w fun e w' => e = .returned (.tuple #[agW (takeV x n).1, .bool true]) ∧ Fr [g] w w' ∧ Win w' g (takeV x n).1 true := by
  have hg := Blk.lt m
  have k1 := fun W hW => take_win g x n W B hB hi hW
  have k2 := fun W => rtake x n W B hB hi
  revert k1 k2
  generalize takeV x n = T
  intro k1 k2
  obtain ⟨y, a, e⟩ := T
  dsimp only at k1 k2 ⊢
  have K1 : Hid _ := k1
  have K2 : Hid _ := k2
  clear k1 k2
  go_enter Try.func12, Try.ntmps12
  go_wp2_with fail
  obtain ⟨bA, bB, bC⟩ := three w #[.int .i64 x.a, .int .i64 x.s, .int .i64 x.m, .int .i64 x.l] #[.int .i64 1, .int .i64 n, .int .i64 r, .bool near] #[.int .i64 0, .int .i64 0, .int .i64 0, .int .i64 0] 33 37 33
  refine (K1.out _ (Blk.alloc (Blk.alloc (Blk.alloc m _) _) _)).mono ?_
  rintro e w1 ⟨rfl, f1, m1⟩
  have f1' : Fr [g] w w1 := Fr.trans (((Fr.refl [g] w).alloc _).alloc _ |>.alloc _) f1 (by simp)
  have cA := Blk.fr bA f1 (by simp; omega)
  have cB := Blk.fr bB f1 (by simp; omega)
  have cC := Blk.fr bC f1 (by simp; omega)
  obtain ⟨p0, p1, p2, p3⟩ := four cA
  have q1 : w1.cell? ⟨w.heap.size + 1, 1, none⟩ = some (.int .i64 n) := by simpa using Blk.cell cB 1
  clear bA bB bC f1
  go_wp2_with fail
  refine (K2.out _).mono ?_
  rintro e w2 ⟨rfl, f2⟩
  have cC2 := Blk.fr cC f2 (by simp)
  have m2 : Win w2 g y true := Blk.fr m1 f2 (by simp)
  have f2' : Fr [g] w w2 := f1'.trans f2 (by simp)
  obtain ⟨p0, p1, p2, p3⟩ := four (x := ⟨0, 0, 0, 0⟩) cC2
  have z0 := Blk.frozen cC2 0
  have z1 := Blk.frozen cC2 1
  have z2 := Blk.frozen cC2 2
  have z3 := Blk.frozen cC2 3
  have hz2 := Blk.lt cC2
  go_wp2
  refine ret12 (y := y) (Blk.alloc (set4 cC2 _ _ _ _) _) rfl rfl rfl ⟨rfl, ?_, ?_⟩
  · refine Fr.alloc (Fr.setCell (Fr.setCell (Fr.setCell (Fr.setCell f2' ?_ _) ?_ _) ?_ _) ?_ _) _ <;> exact Or.inr (by simp; omega)
  · refine Blk.alloc (Blk.far (Blk.far (Blk.far (Blk.far m2 ?_ _) ?_ _) ?_ _) ?_ _) _ <;> (simp; omega)

set_option maxRecDepth 100000 in
theorem does_4 (g : Nat) (x : Wn) (n r : Int) (near : Bool) (w : World) (B : Int) (hB : B ≤ 1000000000) (hi : Inv B x) (m : Win w g x true) :
    Calls Try.prog 12 #[ptr g, agW x, agA 4 n r near] w fun e w' => e = .returned (.tuple #[agW (probeV x).1, .bool true]) ∧ Fr [g] w w' ∧ Win w' g (probeV x).1 true := by
  have hg := Blk.lt m
  have k1 := fun W hW => probe_win g x W B hB hi hW
  have k2 := fun W => rprobe x W B hB hi
  revert k1 k2
  generalize probeV x = T
  intro k1 k2
  obtain ⟨y, a, e⟩ := T
  dsimp only at k1 k2 ⊢
  have K1 : Hid _ := k1
  have K2 : Hid _ := k2
  clear k1 k2
  go_enter Try.func12, Try.ntmps12
  go_wp2_with fail
  obtain ⟨bA, bB, bC⟩ := three w #[.int .i64 x.a, .int .i64 x.s, .int .i64 x.m, .int .i64 x.l] #[.int .i64 4, .int .i64 n, .int .i64 r, .bool near] #[.int .i64 0, .int .i64 0, .int .i64 0, .int .i64 0] 33 37 33
  refine (K1.out _ (Blk.alloc (Blk.alloc (Blk.alloc m _) _) _)).mono ?_
  rintro e w1 ⟨rfl, f1, m1⟩
  have f1' : Fr [g] w w1 := Fr.trans (((Fr.refl [g] w).alloc _).alloc _ |>.alloc _) f1 (by simp)
  have cA := Blk.fr bA f1 (by simp; omega)
  have cC := Blk.fr bC f1 (by simp; omega)
  obtain ⟨p0, p1, p2, p3⟩ := four cA
  clear bA bB bC f1
  go_wp2_with fail
  refine (K2.out _).mono ?_
  rintro e w2 ⟨rfl, f2⟩
  have cC2 := Blk.fr cC f2 (by simp)
  have m2 : Win w2 g y true := Blk.fr m1 f2 (by simp)
  have f2' : Fr [g] w w2 := f1'.trans f2 (by simp)
  obtain ⟨p0, p1, p2, p3⟩ := four (x := ⟨0, 0, 0, 0⟩) cC2
  have z0 := Blk.frozen cC2 0
  have z1 := Blk.frozen cC2 1
  have z2 := Blk.frozen cC2 2
  have z3 := Blk.frozen cC2 3
  have hz2 := Blk.lt cC2
  go_wp2
  refine ret12 (y := y) (Blk.alloc (set4 cC2 _ _ _ _) _) rfl rfl rfl ⟨rfl, ?_, ?_⟩
  · refine Fr.alloc (Fr.setCell (Fr.setCell (Fr.setCell (Fr.setCell f2' ?_ _) ?_ _) ?_ _) ?_ _) _ <;> exact Or.inr (by simp; omega)
  · refine Blk.alloc (Blk.far (Blk.far (Blk.far (Blk.far m2 ?_ _) ?_ _) ?_ _) ?_ _) _ <;> (simp; omega)

end Go.Proofs.Ythhageigbonoaaa
