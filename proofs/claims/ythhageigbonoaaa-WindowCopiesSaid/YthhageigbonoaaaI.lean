import Derived.Test.YthhageigbonoaaaH
import Derived.Test.YthhageigbonoaaaEq
import Derived.Deep.DeepCutAuto
namespace Go.Proofs.Ythhageigbonoaaa
open Go.RowKit Go.Deep

theorem keep11 {w : World} {sb ob gb : Nat} {x y : Wn} (bs : Blk w sb 33 #[.int .i64 y.a, .int .i64 y.s, .int .i64 y.m, .int .i64 y.l]) (bo : Blk w ob 33 #[.int .i64 y.a, .int .i64 y.s, .int .i64 y.m, .int .i64 y.l]) (bg : Blk w gb 33 #[.int .i64 x.a, .int .i64 x.s, .int .i64 x.m, .int .i64 x.l]) :
    w.cell? ⟨sb, 0, none⟩ = some (.int .i64 y.a) ∧ w.cell? ⟨sb, 1, none⟩ = some (.int .i64 y.s) ∧ w.cell? ⟨sb, 2, none⟩ = some (.int .i64 y.m) ∧ w.cell? ⟨sb, 3, none⟩ = some (.int .i64 y.l) ∧ w.cell? ⟨ob, 0, none⟩ = some (.int .i64 y.a) ∧ w.cell? ⟨ob, 1, none⟩ = some (.int .i64 y.s) ∧ w.cell? ⟨ob, 2, none⟩ = some (.int .i64 y.m) ∧ w.cell? ⟨ob, 3, none⟩ = some (.int .i64 y.l) ∧ w.cell? ⟨gb, 0, none⟩ = some (.int .i64 x.a) ∧ w.cell? ⟨gb, 2, none⟩ = some (.int .i64 x.m) ∧ w.cell? ⟨gb, 3, none⟩ = some (.int .i64 x.l) := by
  obtain ⟨p0, p1, p2, p3⟩ := four bs
  obtain ⟨q0, q1, q2, q3⟩ := four bo
  obtain ⟨r0, r1, r2, r3⟩ := four bg
  exact ⟨p0, p1, p2, p3, q0, q1, q2, q3, r0, r2, r3⟩
theorem al1 {w : World} {b j : Nat} {v : Value} (h : w.cell? ⟨b, j, none⟩ = some v) (o : Obj) : (w.alloc o).cell? ⟨b, j, none⟩ = some v := by
  rw [World.cell?_alloc_lt w o _ (World.block_lt_of_cell? w _ h)]; exact h
theorem al1d {w : World} {b j : Nat} {v : Value} (h : w.cell? ⟨b, j, none⟩ = some v) (o : Obj) : (w.alloc o).drew.cell? ⟨b, j, none⟩ = some v := al1 h o

theorem keep8 {w wr w3 : World} {b gb : Nat} {i0 i1 i2 i3 : Nat} {v0 v1 v2 v3 u0 u1 u2 u3 : Value} (F3 : Fr [w.heap.size] wr w3) (h1 : gb < wr.heap.size) (h2 : gb ≠ w.heap.size) (h3 : b < wr.heap.size) (h4 : b ≠ w.heap.size)
    (c0 : wr.cell? ⟨gb, 0, none⟩ = some v0) (c1 : wr.cell? ⟨gb, 1, none⟩ = some v1) (c2 : wr.cell? ⟨gb, 2, none⟩ = some v2) (c3 : wr.cell? ⟨gb, 3, none⟩ = some v3)
    (a0 : wr.cell? ⟨b, i0, none⟩ = some u0) (a1 : wr.cell? ⟨b, i1, none⟩ = some u1) (a2 : wr.cell? ⟨b, i2, none⟩ = some u2) (a3 : wr.cell? ⟨b, i3, none⟩ = some u3) :
    w3.cell? ⟨gb, 0, none⟩ = some v0 ∧ w3.cell? ⟨gb, 1, none⟩ = some v1 ∧ w3.cell? ⟨gb, 2, none⟩ = some v2 ∧ w3.cell? ⟨gb, 3, none⟩ = some v3 ∧
    w3.cell? ⟨b, i0, none⟩ = some u0 ∧ w3.cell? ⟨b, i1, none⟩ = some u1 ∧ w3.cell? ⟨b, i2, none⟩ = some u2 ∧ w3.cell? ⟨b, i3, none⟩ = some u3 :=
  ⟨(F3.cell (p := ⟨gb, 0, none⟩) h1 (by simp; exact h2)).trans c0, (F3.cell (p := ⟨gb, 1, none⟩) h1 (by simp; exact h2)).trans c1, (F3.cell (p := ⟨gb, 2, none⟩) h1 (by simp; exact h2)).trans c2, (F3.cell (p := ⟨gb, 3, none⟩) h1 (by simp; exact h2)).trans c3,
   (F3.cell (p := ⟨b, i0, none⟩) h3 (by simp; exact h4)).trans a0, (F3.cell (p := ⟨b, i1, none⟩) h3 (by simp; exact h4)).trans a1, (F3.cell (p := ⟨b, i2, none⟩) h3 (by simp; exact h4)).trans a2, (F3.cell (p := ⟨b, i3, none⟩) h3 (by simp; exact h4)).trans a3⟩

set_option maxRecDepth 100000 in
set_option maxHeartbeats 4000000 in
theorem play_yes (la : Option Addr) (ln lc : Nat) (K N R : Nat → Int) (E : Nat → Bool) (w : World) (hl : Acts w w.heap.size la ln K N R E) (g1 : ln ≤ 80) :
    Calls Try.prog 4 #[.slice la ln lc] w fun e w' => e = .returned (.bool true) ∧ Fr [] w w' := by
  go_enter Try.func4, Try.ntmps4
  go_wp2_with fail
  refine (new_win _).mono ?_
  rintro e w1 ⟨rfl, f1, m1, z1⟩
  go_wp2_with fail
  have bG : Blk (w1.alloc (.cells #[.int .i64 0, .int .i64 0, .int .i64 0, .int .i64 0] 33)) w1.heap.size 33 #[.int .i64 0, .int .i64 0, .int .i64 0, .int .i64 0] := Blk.new _ _ _
  have mG : Win (w1.alloc (.cells #[.int .i64 0, .int .i64 0, .int .i64 0, .int .i64 0] 33)) w.heap.size ⟨0, 0, 0, 0⟩ true := Blk.alloc m1 _
  have fG : Fr [] w (w1.alloc (.cells #[.int .i64 0, .int .i64 0, .int .i64 0, .int .i64 0] 33)) := f1.alloc _
  generalize w1.alloc (.cells #[.int .i64 0, .int .i64 0, .int .i64 0, .int .i64 0] 33) = w2 at *
  have hgb : w.heap.size < w1.heap.size := z1
  generalize w1.heap.size = gb at *
  clear f1 m1 z1
  go_loopw [5] (fun v5 wr => ∃ (k : Nat) (x : Wn), k ≤ ln ∧ v5 = .int .i64 k ∧ Inv (65536 * k) x ∧ Win wr w.heap.size x true ∧ Blk wr gb 33 #[.int .i64 x.a, .int .i64 x.s, .int .i64 x.m, .int .i64 x.l] ∧ Fr [] w wr) (fun v5 _ => ln - (intOf v5).toNat)
  case atStart => exact ⟨0, ⟨0, 0, 0, 0⟩, by omega, rfl, by unfold Inv; dsimp only; omega, mG, bG, fG⟩
  case round =>
    obtain ⟨k, x, hk, rfl, hi, mk, bk, fk⟩ := hrel
    by_cases hlt : k < ln
    · obtain ⟨b, o, rfl, hb, a0, a1, a2, a3⟩ := (hl.fr fk (Nat.le_refl _) (by simp)).at_ k hlt
      obtain ⟨c0, c1, c2, c3⟩ := four bk
      have hgb2 := Blk.lt bk
      have hsz := fk.size
      have n1 : gb ≠ wr.heap.size := by omega
      have n2 : b ≠ wr.heap.size := by omega
      go_upto_region 8 with fail
      go_cut [6, 7] (fun s6 s7 wx => ∃ ob : Nat, s6 = ptr ob ∧ s7 = .bool true ∧ gb < ob ∧ Blk wx ob 33 #[.int .i64 (doesV x (K k) (N k) (R k) (E k)).a, .int .i64 (doesV x (K k) (N k) (R k) (E k)).s, .int .i64 (doesV x (K k) (N k) (R k) (E k)).m, .int .i64 (doesV x (K k) (N k) (R k) (E k)).l] ∧ Win wx w.heap.size (doesV x (K k) (N k) (R k) (E k)) true ∧ Blk wx gb 33 #[.int .i64 x.a, .int .i64 x.s, .int .i64 x.m, .int .i64 x.l] ∧ Fr [] w wx)
      case first =>
        have hd := fun W hW => does_any w.heap.size x (K k) (N k) (R k) (E k) W (65536 * k) (by omega) hi hW
        have Hd : Hid _ := hd
        clear hd
        go_region_held3 (fun w' => w'.cell? ⟨gb, 0, none⟩ = some (.int .i64 x.a) ∧ w'.cell? ⟨gb, 1, none⟩ = some (.int .i64 x.s) ∧ w'.cell? ⟨gb, 2, none⟩ = some (.int .i64 x.m) ∧ w'.cell? ⟨gb, 3, none⟩ = some (.int .i64 x.l) ∧ w'.cell? ⟨b, o + k * 4, none⟩ = some (.int .i64 (K k)) ∧ w'.cell? ⟨b, o + k * 4 + 1, none⟩ = some (.int .i64 (N k)) ∧ w'.cell? ⟨b, o + k * 4 + 2, none⟩ = some (.int .i64 (R k)) ∧ w'.cell? ⟨b, o + k * 4 + 3, none⟩ = some (.bool (E k))) (first | (with_reducible exact ⟨t0, t1, t2, t3, t4, t5, t6, t7⟩) | (with_reducible exact ⟨far4 t0 n1 _ _ _ _, far4 t1 n1 _ _ _ _, far4 t2 n1 _ _ _ _, far4 t3 n1 _ _ _ _, far4 t4 n2 _ _ _ _, far4 t5 n2 _ _ _ _, far4 t6 n2 _ _ _ _, far4 t7 n2 _ _ _ _⟩) | (with_reducible exact ⟨al1 t0 _, al1 t1 _, al1 t2 _, al1 t3 _, al1 t4 _, al1 t5 _, al1 t6 _, al1 t7 _⟩) | (with_reducible exact ⟨al1 c0 _, al1 c1 _, al1 c2 _, al1 c3 _, al1 a0 _, al1 a1 _, al1 a2 _, al1 a3 _⟩) | (with_reducible exact ⟨al1d c0 _, al1d c1 _, al1d c2 _, al1d c3 _, al1d a0 _, al1d a1 _, al1d a2 _, al1d a3 _⟩) | go_keep) (first
          | (go_at_call 12; refine (Hd.out _ (Blk.drew mk)).mono ?_; rintro e w3 ⟨rfl, f3, m3⟩; have F3 : Fr [w.heap.size] wr w3 := Fr.trans ((Fr.refl _ _).drew) f3 (by simp); obtain ⟨t0, t1, t2, t3, t4, t5, t6, t7⟩ := keep8 F3 (by omega) (by omega) (by omega) (by omega) c0 c1 c2 c3 a0 a1 a2 a3)
          | (go_at_call 12; refine (Hd.out _ (Blk.alloc (Blk.drew mk) _)).mono ?_; rintro e w3 ⟨rfl, f3, m3⟩; have F3 : Fr [w.heap.size] wr w3 := Fr.trans (((Fr.refl _ _).drew).alloc _) f3 (by simp); obtain ⟨t0, t1, t2, t3, t4, t5, t6, t7⟩ := keep8 F3 (by omega) (by omega) (by omega) (by omega) c0 c1 c2 c3 a0 a1 a2 a3; have bo3 : Blk w3 wr.heap.size 33 #[.int .i64 0, .int .i64 0, .int .i64 0, .int .i64 0] := Blk.fr (w := wr.drew.alloc _) (Blk.new wr.drew _ _) f3 (by simp; omega); have hz3 := Blk.lt bo3; obtain ⟨q0, q1, q2, q3⟩ := four (x := ⟨0, 0, 0, 0⟩) bo3; have z0 := Blk.frozen bo3 0; have z1 := Blk.frozen bo3 1; have z2 := Blk.frozen bo3 2; have z3 := Blk.frozen bo3 3))
        · go_wp2_with fail
          go_meet
          have bg3 := Blk.fr bk F3 (by simp; omega)
          have F4 : Fr [] w w3 := fk.trans F3 (by simp)
          have hz := F3.size
          exact ⟨w3.heap.size, rfl, rfl, by omega, Blk.new _ _ _, Blk.alloc m3 _, Blk.alloc bg3 _, F4.alloc _⟩
        · go_wp2_with fail
          go_meet
          have bg3 := Blk.fr bk F3 (by simp; omega)
          have F4 : Fr [] w w3 := fk.trans F3 (by simp)
          refine ⟨wr.heap.size, rfl, rfl, by omega, set4 bo3 _ _ _ _, Blk.far (Blk.far (Blk.far (Blk.far m3 ?_ _) ?_ _) ?_ _) ?_ _, Blk.far (Blk.far (Blk.far (Blk.far bg3 ?_ _) ?_ _) ?_ _) ?_ _, Fr.setCell (Fr.setCell (Fr.setCell (Fr.setCell F4 ?_ _) ?_ _) ?_ _) ?_ _⟩ <;> first | (exact Or.inr hsz) | (simp; omega)
      case rest =>
        obtain ⟨ob, rfl, rfl, hob, bo, mo, bg, fo⟩ := hcut
        have hds := does_inv x (K k) (N k) (R k) (E k) (65536 * k) hi
        generalize doesV x (K k) (N k) (R k) (E k) = y at *
        obtain ⟨hy, hya, hym, hyl⟩ := hds
        obtain ⟨j0, j1, j2, j3, j4⟩ := hy.bd
        have hB2 : 65536 * (k : Int) + 65536 ≤ 1000000000 := by omega
        clear hi a0 a1 a2 a3 c0 c1 c2 c3 mk bk fk hgb2 hsz n1 n2
        go_wp2_with fail
        refine (state_win _ _ _ mo).mono ?_
        rintro e w4 ⟨rfl, f4⟩
        have bo4 := Blk.fr bo f4 (by simp)
        have mo4 : Win w4 w.heap.size y true := Blk.fr mo f4 (by simp)
        have bg4 := Blk.fr bg f4 (by simp)
        have fo4 : Fr [] w w4 := fo.trans f4 (by simp)
        clear bo mo bg fo f4
        go_upto_region 10 with fail
        go_cut [96] (fun s96 wx => s96 = .bool false ∧ Blk wx ob 33 #[.int .i64 y.a, .int .i64 y.s, .int .i64 y.m, .int .i64 y.l] ∧ Blk wx gb 33 #[.int .i64 x.a, .int .i64 x.s, .int .i64 x.m, .int .i64 x.l] ∧ Win wx w.heap.size y true ∧ Fr [] w wx)
        case first =>
          have bs5 : Blk (w4.alloc (.cells #[.int .i64 y.a, .int .i64 y.s, .int .i64 y.m, .int .i64 y.l] 33)) w4.heap.size 33 #[.int .i64 y.a, .int .i64 y.s, .int .i64 y.m, .int .i64 y.l] := Blk.new _ _ _
          have bo5 := Blk.alloc bo4 (.cells #[.int .i64 y.a, .int .i64 y.s, .int .i64 y.m, .int .i64 y.l] 33)
          have mo5 : Win (w4.alloc (.cells #[.int .i64 y.a, .int .i64 y.s, .int .i64 y.m, .int .i64 y.l] 33)) w.heap.size y true := Blk.alloc mo4 (.cells #[.int .i64 y.a, .int .i64 y.s, .int .i64 y.m, .int .i64 y.l] 33)
          have bg5 := Blk.alloc bg4 (.cells #[.int .i64 y.a, .int .i64 y.s, .int .i64 y.m, .int .i64 y.l] 33)
          have fo5 := fo4.alloc (.cells #[.int .i64 y.a, .int .i64 y.s, .int .i64 y.m, .int .i64 y.l] 33)
          generalize w4.alloc (.cells #[.int .i64 y.a, .int .i64 y.s, .int .i64 y.m, .int .i64 y.l] 33) = w5 at *
          generalize w4.heap.size = sb at *
          clear bo4 mo4 bg4 fo4
          obtain ⟨p0, p1, p2, p3⟩ := four bs5
          obtain ⟨q0, q1, q2, q3⟩ := four bo5
          obtain ⟨r0, r1, r2, r3⟩ := four bg5
          have d1 : decide (y.s < y.a) = false := by simp; omega
          have d2 : decide (y.m < y.s) = false := by simp; omega
          have d3 : decide (y.l + 1 < y.m) = false := by simp; omega
          have d4 : decide (y.a < x.a) = false := by simp; omega
          have d5 : decide (y.m < x.m) = false := by simp; omega
          have d6 : decide (y.l < x.l) = false := by simp; omega
          have e1 := neq33_same
          have e2 := eqg33
          have wl : IntKind.i64.wrap (y.l + 1) = y.l + 1 := IntWalk.i64_in _ (by omega)
          go_region_held3 (fun w' => w'.cell? ⟨sb, 0, none⟩ = some (.int .i64 y.a) ∧ w'.cell? ⟨sb, 1, none⟩ = some (.int .i64 y.s) ∧ w'.cell? ⟨sb, 2, none⟩ = some (.int .i64 y.m) ∧ w'.cell? ⟨sb, 3, none⟩ = some (.int .i64 y.l) ∧ w'.cell? ⟨ob, 0, none⟩ = some (.int .i64 y.a) ∧ w'.cell? ⟨ob, 1, none⟩ = some (.int .i64 y.s) ∧ w'.cell? ⟨ob, 2, none⟩ = some (.int .i64 y.m) ∧ w'.cell? ⟨ob, 3, none⟩ = some (.int .i64 y.l) ∧ w'.cell? ⟨gb, 0, none⟩ = some (.int .i64 x.a) ∧ w'.cell? ⟨gb, 2, none⟩ = some (.int .i64 x.m) ∧ w'.cell? ⟨gb, 3, none⟩ = some (.int .i64 x.l))
            (first | (with_reducible exact keep11 bs9 bo9 bg9) | (with_reducible exact keep11 bs8 bo8 bg8) | (with_reducible exact keep11 bs7 bo7 bg7) | (with_reducible exact keep11 bs6 bo6 bg6) | go_keep)
            (first
            | (go_at_call 14; refine (room_fr _ _ _ _ hB2 hy (Blk.drew mo5)).mono ?_; rintro e w6 ⟨rfl, f6⟩; have bs6 := Blk.fr (Blk.drew bs5) f6 (by simp); have bo6 := Blk.fr (Blk.drew bo5) f6 (by simp); have bg6 := Blk.fr (Blk.drew bg5) f6 (by simp); have mo6 : Win w6 w.heap.size y true := Blk.fr (Blk.drew mo5) f6 (by simp); have fo6 := Fr.trans (Fr.drew fo5) f6 (by simp))
            | (go_at_call 15; refine (rroom _ _ _ hB2 hy).mono ?_; rintro e w7 ⟨rfl, f7⟩; have bs7 := Blk.fr bs6 f7 (by simp); have bo7 := Blk.fr bo6 f7 (by simp); have bg7 := Blk.fr bg6 f7 (by simp); have mo7 : Win w7 w.heap.size y true := Blk.fr mo6 f7 (by simp); have fo7 := Fr.trans fo6 f7 (by simp))
            | (go_at_call 16; refine (zero_fr _ _ _ mo7).mono ?_; rintro e w8 ⟨rfl, f8⟩; have bs8 := Blk.fr bs7 f8 (by simp); have bo8 := Blk.fr bo7 f8 (by simp); have bg8 := Blk.fr bg7 f8 (by simp); have mo8 : Win w8 w.heap.size y true := Blk.fr mo7 f8 (by simp); have fo8 := Fr.trans fo7 f8 (by simp))
            | (go_at_call 17; refine (rzero _ _).mono ?_; rintro e w9 ⟨rfl, f9⟩; have bs9 := Blk.fr bs8 f9 (by simp); have bo9 := Blk.fr bo8 f9 (by simp); have bg9 := Blk.fr bg8 f9 (by simp); have mo9 : Win w9 w.heap.size y true := Blk.fr mo8 f9 (by simp); have fo9 := Fr.trans fo8 f9 (by simp)))
          go_wp2_with fail
          go_meet
          exact ⟨rfl, bo9, bg9, mo9, fo9⟩
        case rest =>
          obtain ⟨rfl, bo9, bg9, mo9, fo9⟩ := hcut
          clear bo4 bg4 mo4 fo4
          obtain ⟨q0, q1, q2, q3⟩ := four bo9
          obtain ⟨r0, r1, r2, r3⟩ := four bg9
          have z0 := Blk.frozen bg9 0
          have z1 := Blk.frozen bg9 1
          have z2 := Blk.frozen bg9 2
          have z3 := Blk.frozen bg9 3
          go_wp2_with fail
          go_roundw
          case rel =>
            refine ⟨k + 1, y, by omega, by go_num, ?_, Blk.far (Blk.far (Blk.far (Blk.far mo9 ?_ _) ?_ _) ?_ _) ?_ _, set4 bg9 _ _ _ _, Fr.setCell (Fr.setCell (Fr.setCell (Fr.setCell fo9 ?_ _) ?_ _) ?_ _) ?_ _⟩
            · unfold Inv; refine ⟨j0, j1, j2, j3, ?_⟩; simp; omega
            all_goals first | (exact Or.inr (by simp; omega)) | (simp; omega)
          case measure => simp [intOf]; omega
    · go_wp2_with fail
      refine (known_any _).mono ?_
      rintro e w5 ⟨rfl, f5⟩
      go_wp2_with fail
      go_ret
      exact ⟨rfl, fk.trans f5 (by simp)⟩
end Go.Proofs.Ythhageigbonoaaa
