import Derived.Test.YtkpgkoeclhlidaaF
namespace Go.Proofs.Ytkpgkoeclhlidaa
open Go.RowKit

theorem three (w : World) (A B C : Array Value) (a b c : TypeId) : Blk (((w.alloc (.cells A a)).alloc (.cells B b)).alloc (.cells C c)) w.heap.size a A ∧
    Blk (((w.alloc (.cells A a)).alloc (.cells B b)).alloc (.cells C c)) (w.heap.size + 1) b B ∧ Blk (((w.alloc (.cells A a)).alloc (.cells B b)).alloc (.cells C c)) (w.heap.size + 1 + 1) c C := by
  have h2 : (w.alloc (.cells A a)).heap.size = w.heap.size + 1 := by simp
  have h3 : ((w.alloc (.cells A a)).alloc (.cells B b)).heap.size = w.heap.size + 1 + 1 := by simp
  refine ⟨Blk.alloc (Blk.alloc (Blk.new _ _ _) _) _, ?_, ?_⟩
  · have := Blk.alloc (Blk.new (w.alloc (.cells A a)) b B) (.cells C c)
    rwa [h2] at this
  · have := Blk.new ((w.alloc (.cells A a)).alloc (.cells B b)) c C
    rwa [h3] at this
/-- A clock stored into a block, cell by cell. -/
abbrev put11 (w : World) (b : Nat) (d : Ck) : World := (((((((((((w).setCell ⟨b, 0, none⟩ (.int .i64 d.f)).setCell ⟨b, 1, none⟩ (.int .i64 d.l)).setCell ⟨b, 2, none⟩ (.int .i64 d.m)).setCell ⟨b, 3, none⟩ (.int .i64 d.t)).setCell ⟨b, 4, none⟩ (.bool d.is)).setCell ⟨b, 5, none⟩ (.int .i64 d.tm)).setCell ⟨b, 6, none⟩ (.int .i64 d.sp)).setCell ⟨b, 7, none⟩ (.int .i64 d.wt)).setCell ⟨b, 8, none⟩ (.int .i64 d.si)).setCell ⟨b, 9, none⟩ (.int .i64 d.tr)).setCell ⟨b, 10, none⟩ (.bool d.rn)
theorem set11 {w : World} {b : Nat} {t : TypeId} {c : Ck} (h : Blk w b t c.arr) (d : Ck) : Blk (put11 w b d) b t d.arr := by
  have := (Blk.set_ (Blk.set_ (Blk.set_ (Blk.set_ (Blk.set_ (Blk.set_ (Blk.set_ (Blk.set_ (Blk.set_ (Blk.set_ (Blk.set_ h 0 (.int .i64 d.f)) 1 (.int .i64 d.l)) 2 (.int .i64 d.m)) 3 (.int .i64 d.t)) 4 (.bool d.is)) 5 (.int .i64 d.tm)) 6 (.int .i64 d.sp)) 7 (.int .i64 d.wt)) 8 (.int .i64 d.si)) 9 (.int .i64 d.tr)) 10 (.bool d.rn))
  simpa using this
theorem far11 {w : World} {b g : Nat} {t : TypeId} {cs : Array Value} (h : Blk w g t cs) (hne : g ≠ b) (d : Ck) : Blk (put11 w b d) g t cs := (Blk.far (Blk.far (Blk.far (Blk.far (Blk.far (Blk.far (Blk.far (Blk.far (Blk.far (Blk.far (Blk.far h hne _) hne _) hne _) hne _) hne _) hne _) hne _) hne _) hne _) hne _) hne _)
theorem fr11 {O : List Nat} {a w : World} {b : Nat} (h : Fr O a w) (hp : b ∈ O ∨ a.heap.size ≤ b) (d : Ck) : Fr O a (put11 w b d) := (Fr.setCell (Fr.setCell (Fr.setCell (Fr.setCell (Fr.setCell (Fr.setCell (Fr.setCell (Fr.setCell (Fr.setCell (Fr.setCell (Fr.setCell h hp _) hp _) hp _) hp _) hp _) hp _) hp _) hp _) hp _) hp _) hp _)
structure Free (w : World) (b : Nat) : Prop where
  z0 : w.frozen? ⟨b, 0, none⟩ = false
  z1 : w.frozen? ⟨b, 1, none⟩ = false
  z2 : w.frozen? ⟨b, 2, none⟩ = false
  z3 : w.frozen? ⟨b, 3, none⟩ = false
  z4 : w.frozen? ⟨b, 4, none⟩ = false
  z5 : w.frozen? ⟨b, 5, none⟩ = false
  z6 : w.frozen? ⟨b, 6, none⟩ = false
  z7 : w.frozen? ⟨b, 7, none⟩ = false
  z8 : w.frozen? ⟨b, 8, none⟩ = false
  z9 : w.frozen? ⟨b, 9, none⟩ = false
  z10 : w.frozen? ⟨b, 10, none⟩ = false
theorem free_of {w : World} {b : Nat} {t : TypeId} {cs : Array Value} (h : Blk w b t cs) : Free w b :=
  ⟨Blk.frozen h 0, Blk.frozen h 1, Blk.frozen h 2, Blk.frozen h 3, Blk.frozen h 4, Blk.frozen h 5, Blk.frozen h 6, Blk.frozen h 7, Blk.frozen h 8, Blk.frozen h 9, Blk.frozen h 10⟩

/-- does' return. -/
theorem ret18 {R : Ending → World → Prop} {a : Act} {W : World} {b : Nat} {d : Ck} {k : Bool} (hB : Blk W b 40 d.arr)
    (h6 : a.tmps.getD 6 undef = .pointer (some ⟨b, 0, none⟩)) (h7 : a.tmps.getD 7 undef = .bool k) (hd : a.defers = []) (hR : R (.returned (.tuple #[agC d, .bool k])) W) : bodyPost Try.prog Try.f18 R .ret a W := by
  obtain ⟨r0, r1, r2, r3, r4, r5, r6, r7, r8, r9, r10⟩ := cells_of hB
  refine bodyPost_ret (v := .tuple #[agC d, .bool k]) ?_ hd hR
  simp only [Array.getD_eq_getD_getElem?] at h6 h7
  simp [results, Try.results18, go_sem, r0, r1, r2, r3, r4, r5, r6, r7, r8, r9, r10, h6, h7]

abbrev agA (k n : Int) (near : Bool) : Value := .agg #[.int .i64 k, .int .i64 n, .bool near]
def ck0 : Ck := ⟨0, 0, 0, 0, false, 0, 0, 0, 0, 0, false⟩

set_option maxRecDepth 100000 in
set_option maxHeartbeats 2000000 in
theorem does_3 (g : Nat) (c : Ck) (n : Int) (w : World) (m : Clk w g c) (hi : Inv c) :
    Calls Try.prog 18 #[ptr g, agC c, agA 3 n false] w fun e w' => e = .returned (.tuple #[agC (stopV c), .bool true]) ∧ Fr [g] w w' ∧ Clk w' g (stopV c) := by
  have hg := Blk.lt m
  have k1 := fun W (mW : Clk W g c) => stop_clk g c W mW hi
  have k2 := fun W => rstop c W hi
  revert k1 k2
  generalize stopV c = d
  intro k1 k2
  have K1 : Hid _ := k1
  have K2 : Hid _ := k2
  clear k1 k2
  obtain ⟨bP, bX, bR⟩ := three w c.arr #[.int .i64 3, .int .i64 n, .bool false] ck0.arr 40 45 40
  have f0 : Fr [g] w (((w.alloc (.cells c.arr 40)).alloc (.cells #[.int .i64 3, .int .i64 n, .bool false] 45)).alloc (.cells ck0.arr 40)) := (((Fr.refl [g] w).alloc _).alloc _).alloc _
  have m0 : Clk (((w.alloc (.cells c.arr 40)).alloc (.cells #[.int .i64 3, .int .i64 n, .bool false] 45)).alloc (.cells ck0.arr 40)) g c := Blk.alloc (Blk.alloc (Blk.alloc m _) _) _
  go_enter Try.func18, Try.ntmps18
  go_wp2_with fail
  refine (K2.out _).mono ?_
  rintro e w1 ⟨rfl, f1⟩
  have R1 := Blk.fr bR f1 (by simp)
  have M1 : Clk w1 g c := Blk.fr m0 f1 (by simp)
  have F1 : Fr [g] w w1 := Fr.trans f0 f1 (by simp)
  go_wp2_with fail
  refine (K1.out _ M1).mono ?_
  rintro e w2 ⟨rfl, f2, M2⟩
  have R2 := Blk.fr R1 f2 (by simp; omega)
  have F2 : Fr [g] w w2 := F1.trans f2 (by simp)
  obtain ⟨c0, c1, c2, c3, c4, c5, c6, c7, c8, c9, c10⟩ := cells_of R2
  obtain ⟨z0, z1, z2, z3, z4, z5, z6, z7, z8, z9, z10⟩ := free_of R2
  clear bP bX bR f0 m0 f1 R1 M1 F1 f2
  go_wp2_with fail
  refine ret18 (d := d) (set11 R2 _) rfl rfl rfl ⟨rfl, fr11 F2 (Or.inr (by omega)) _, far11 M2 (by omega) _⟩
end Go.Proofs.Ytkpgkoeclhlidaa
