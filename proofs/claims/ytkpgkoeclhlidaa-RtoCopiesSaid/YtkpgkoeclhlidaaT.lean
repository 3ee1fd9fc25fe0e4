import Derived.Test.YtkpgkoeclhlidaaS
import Derived.Deep.DeepCutAuto
namespace Go.Proofs.Ytkpgkoeclhlidaa
open Go.RowKit Go.Deep

theorem keep22 {w : World} {g h : Nat} {x y : Ck} (C : Cells w g x) (D : Cells w h y) :
    w.cell? ⟨g, 0, none⟩ = some (.int .i64 x.f) ∧ w.cell? ⟨g, 1, none⟩ = some (.int .i64 x.l) ∧ w.cell? ⟨g, 2, none⟩ = some (.int .i64 x.m) ∧ w.cell? ⟨g, 3, none⟩ = some (.int .i64 x.t) ∧ w.cell? ⟨g, 4, none⟩ = some (.bool x.is) ∧ w.cell? ⟨g, 5, none⟩ = some (.int .i64 x.tm) ∧ w.cell? ⟨g, 6, none⟩ = some (.int .i64 x.sp) ∧ w.cell? ⟨g, 7, none⟩ = some (.int .i64 x.wt) ∧ w.cell? ⟨g, 8, none⟩ = some (.int .i64 x.si) ∧ w.cell? ⟨g, 9, none⟩ = some (.int .i64 x.tr) ∧ w.cell? ⟨g, 10, none⟩ = some (.bool x.rn) ∧ w.cell? ⟨h, 0, none⟩ = some (.int .i64 y.f) ∧ w.cell? ⟨h, 1, none⟩ = some (.int .i64 y.l) ∧ w.cell? ⟨h, 2, none⟩ = some (.int .i64 y.m) ∧ w.cell? ⟨h, 3, none⟩ = some (.int .i64 y.t) ∧ w.cell? ⟨h, 4, none⟩ = some (.bool y.is) ∧ w.cell? ⟨h, 5, none⟩ = some (.int .i64 y.tm) ∧ w.cell? ⟨h, 6, none⟩ = some (.int .i64 y.sp) ∧ w.cell? ⟨h, 7, none⟩ = some (.int .i64 y.wt) ∧ w.cell? ⟨h, 8, none⟩ = some (.int .i64 y.si) ∧ w.cell? ⟨h, 9, none⟩ = some (.int .i64 y.tr) ∧ w.cell? ⟨h, 10, none⟩ = some (.bool y.rn) :=
  ⟨C.c0, C.c1, C.c2, C.c3, C.c4, C.c5, C.c6, C.c7, C.c8, C.c9, C.c10, D.c0, D.c1, D.c2, D.c3, D.c4, D.c5, D.c6, D.c7, D.c8, D.c9, D.c10⟩

set_option maxRecDepth 100000 in
set_option maxHeartbeats 8000000 in
theorem copies_yes (f l m t : Int) (la lb : Option Addr) (ln lc ln' lc' : Nat) (K N K' N' : Nat → Int) (E E' : Nat → Bool) (w : World) (hl : Acts w w.heap.size la ln K N E) (hl' : Acts w w.heap.size lb ln' K' N' E') (g1 : ln ≤ 40) (g2 : ln' ≤ 40)
    (h1 : 1 ≤ l) (h2 : l ≤ f) (h3 : f ≤ m) (h4 : m ≤ 65536) (h5 : 1 ≤ t) (h6 : t ≤ 100) :
    Calls Try.prog 6 #[agR f l m t, .slice la ln lc, .slice lb ln' lc'] w fun e w' => e = .returned (.bool true) ∧ Fr [] w w' := by
  go_enter Try.func6, Try.ntmps6
  go_wp2_with fail
  have bR : Blk (w.alloc (.cells #[.int .i64 f, .int .i64 l, .int .i64 m, .int .i64 t] 23)) w.heap.size 23 #[.int .i64 f, .int .i64 l, .int .i64 m, .int .i64 t] := Blk.new _ _ _
  have f0 : Fr [] w (w.alloc (.cells #[.int .i64 f, .int .i64 l, .int .i64 m, .int .i64 t] 23)) := (Fr.refl _ _).alloc _
  have z0 : w.heap.size < (w.alloc (.cells #[.int .i64 f, .int .i64 l, .int .i64 m, .int .i64 t] 23)).heap.size := by simp
  generalize w.alloc (.cells #[.int .i64 f, .int .i64 l, .int .i64 m, .int .i64 t] 23) = w0 at *
  refine (new_clk f l m t _ h1 h2 h3 h4 h5 h6).mono ?_
  rintro e w1 ⟨pb, rfl, hg, f1, m1, z1⟩
  have bR1 := Blk.fr bR f1 (by simp)
  have F1 : Fr [] w w1 := f0.trans f1 (by simp)
  have hgr : w.heap.size < pb := by omega
  clear bR f0 f1
  obtain ⟨q0, q1, q2, q3⟩ := r4 bR1
  go_wp2_with fail
  refine (rnew f l m t _).mono ?_
  rintro e w3 ⟨rfl, f3⟩
  have m3 : Clk w3 pb _ := Blk.fr m1 f3 (by simp)
  have F3 : Fr [] w w3 := F1.trans f3 (by simp)
  clear bR1 m1 F1 f3 q0 q1 q2 q3
  have hi0 : Inv (newV f l m t) := new_inv h1 h2 h3 h4 h5 h6
  generalize newV f l m t = x0 at *
  have hz3 := Blk.lt m3
  have hzw := F3.size
  go_wp2_with ((with_reducible refine gate_store 40 (.tmp 9) ?_); refine wpList_store_blk rfl 40 (.tmp 9) _ rfl w3.heap.size 40 ck0.arr x0.arr rfl rfl (Blk.new _ _ _) rfl (by kernel_rfl) (arr_one x0) ?_; intro w4 B4 F4)
  have m4 : Clk w4 pb x0 := Blk.fr (Blk.alloc m3 _) F4 (by simp <;> omega)
  have F5 : Fr [] w w4 := Fr.trans (F3.alloc _) F4 (by simp <;> omega)
  have hgb : pb < w3.heap.size := hz3
  generalize w3.heap.size = gb at *
  clear F4 hz3 F3 m3
  go_loopw [10] (fun v wr => ∃ (k : Nat), k ≤ ln ∧ v = .int .i64 k ∧ Clk wr pb (runV K N E k x0) ∧ Blk wr gb 40 (runV K N E k x0).arr ∧ Fr [] w wr) (fun v _ => ln - (intOf v).toNat)
  case atStart => exact ⟨0, by omega, rfl, m4, B4, F5⟩
  case round =>
    obtain ⟨k, hk, rfl, mk, bk, fk⟩ := hrel
    by_cases hlt : k < ln
    · obtain ⟨b, o, rfl, hb, a0, a1, a2⟩ := (hl.fr fk (Nat.le_refl _) (by simp)).at_ k hlt
      have hi := run_inv K N E x0 hi0 k
      have hd := fun W hW => does_any pb (runV K N E k x0) (K k) (N k) (E k) W hW hi
      rw [show doesV (runV K N E k x0) (K k) (N k) (E k) = runV K N E (k + 1) x0 from rfl] at hd
      clear hi
      generalize runV K N E k x0 = x at mk bk hd
      revert hd
      generalize hy : runV K N E (k + 1) x0 = y
      intro hd
      have Hy : Hid _ := hy
      have Hd : Hid _ := hd
      clear hd hy
      obtain ⟨c0, c1, c2, c3, c4, c5, c6, c7, c8, c9, c10⟩ := cells_of bk
      have hG := Blk.lt bk
      have hsz := fk.size
      go_upto_region 10 with fail
      go_region_with (first
        | (go_at_call 18; refine (Hd.out _ (Blk.drew mk)).mono ?_; rintro e w3 ⟨rfl, f3, m3⟩; have F3 : Fr [pb] wr w3 := Fr.trans ((Fr.refl _ _).drew) f3 (by simp); have bo3 := Blk.fr bk F3 (by simp <;> omega); have hz3 := Blk.lt bo3; obtain ⟨y0, y1, y2, y3, y4, y5, y6, y7, y8, y9, y10⟩ := cells_of bo3; obtain ⟨z0, z1, z2, z3, z4, z5, z6, z7, z8, z9, z10⟩ := free_of bo3))
      all_goals
        go_wp2_with fail
        go_roundw
        case rel =>
          have hy := Hy.out
          refine ⟨k + 1, by omega, by go_num, ?_⟩
          rw [hy]
          exact ⟨far11 m3 (by omega) y, set11 bo3 y, fr11 (fk.trans F3 (by simp <;> omega)) (Or.inr (by omega)) y⟩
        case measure => simp [intOf]; omega
    · obtain rfl : ln = k := by omega
      clear hlt
      have hi1 := run_inv K N E x0 hi0 ln
      generalize runV K N E ln x0 = x1 at *
      clear hi0 B4 m4 F5 hl hk
      have hG := Blk.lt bk
      go_wp2_with fail
      refine (copy_clk _ _ _ mk hi1).mono ?_
      rintro e w3 ⟨rfl, f3, mC, zC⟩
      have hP := Blk.lt mk
      have hw := fk.size
      have mP3 : Clk w3 _ x1 := Blk.fr mk f3 (by simp)
      have bG3 := Blk.fr bk f3 (by simp)
      have F3 : Fr [] w w3 := fk.trans f3 (by simp)
      generalize hCn : wr.heap.size = cb at *
      clear mk bk fk f3
      go_wp2_with fail
      refine (copy_clk _ _ _ mP3 hi1).mono ?_
      rintro e w4 ⟨rfl, f4, mD, zD⟩
      have mP4 : Clk w4 _ x1 := Blk.fr mP3 f4 (by simp)
      have mC4 : Clk w4 cb x1 := Blk.fr mC f4 (by simp)
      have bG4 := Blk.fr bG3 f4 (by simp)
      have F4 : Fr [] w w4 := F3.trans f4 (by simp)
      generalize hDn : w3.heap.size = db at *
      clear mP3 mC bG3 F3 f4
      go_wp2_with (first | ((with_reducible refine gate_load 40 (.tmp 9) ?_); refine wpList_load_blk rfl 40 (.tmp 9) rfl gb 40 x1.arr _ rfl bG4 Try.underlying40 rfl rfl ?_) | ((with_reducible refine gate_store 40 (.tmp 13) ?_); refine wpList_store_blk rfl 40 (.tmp 13) _ rfl w4.heap.size 40 ck0.arr x1.arr rfl rfl (Blk.new _ _ _) rfl (by kernel_rfl) (arr_one x1) ?_; intro w5 bH5 E5))
      have mP5 : Clk w5 _ x1 := Blk.fr (Blk.alloc mP4 _) E5 (by simp <;> omega)
      have mC5 : Clk w5 _ x1 := Blk.fr (Blk.alloc mC4 _) E5 (by simp <;> omega)
      have mD5 : Clk w5 _ x1 := Blk.fr (Blk.alloc mD _) E5 (by simp <;> omega)
      have bG5 := Blk.fr (Blk.alloc bG4 _) E5 (by simp <;> omega)
      have hw4 := F4.size
      have F5 : Fr [] w w5 := Fr.trans (F4.alloc _) E5 (by simp <;> omega)
      generalize hHn : w4.heap.size = hb at *
      have o1 : w.heap.size < gb := by omega
      have o2 : gb < cb := by omega
      have o3 : cb < db := by omega
      have o4 : db < hb := by omega
      clear mP4 mC4 mD bG4 F4 E5 hP hG
      clear hCn hDn hHn
      have hi0 := hi1
      clear hi1
      go_loopw [14] (fun v wr => ∃ (k : Nat), k ≤ ln' ∧ v = .int .i64 k ∧ Clk wr cb (runV K' N' E' k x1) ∧ Blk wr hb 40 (runV K' N' E' k x1).arr ∧ Clk wr pb x1 ∧ Clk wr db x1 ∧ Blk wr gb 40 x1.arr ∧ Fr [] w wr) (fun v _ => ln' - (intOf v).toNat)
      case atStart => exact ⟨0, by omega, rfl, mC5, bH5, mP5, mD5, bG5, F5⟩
      case round =>
        obtain ⟨k, hk, rfl, mk, bk, m5, n5, g5, fk⟩ := hrel
        by_cases hlt : k < ln'
        · obtain ⟨b, o, rfl, hb, a0, a1, a2⟩ := (hl'.fr fk (Nat.le_refl _) (by simp)).at_ k hlt
          have hi := run_inv K' N' E' x1 hi0 k
          have hd := fun W hW => does_any cb (runV K' N' E' k x1) (K' k) (N' k) (E' k) W hW hi
          rw [show doesV (runV K' N' E' k x1) (K' k) (N' k) (E' k) = runV K' N' E' (k + 1) x1 from rfl] at hd
          clear hi
          generalize runV K' N' E' k x1 = x at mk bk hd
          revert hd
          generalize hy : runV K' N' E' (k + 1) x1 = y
          intro hd
          have Hy : Hid _ := hy
          have Hd : Hid _ := hd
          clear hd hy
          obtain ⟨c0, c1, c2, c3, c4, c5, c6, c7, c8, c9, c10⟩ := cells_of bk
          have hG := Blk.lt bk
          have hsz := fk.size
          go_upto_region 16 with fail
          go_region_with (first
            | (go_at_call 18; refine (Hd.out _ (Blk.drew mk)).mono ?_; rintro e w3 ⟨rfl, f3, m3⟩; have F3 : Fr [cb] wr w3 := Fr.trans ((Fr.refl _ _).drew) f3 (by simp); have bo3 := Blk.fr bk F3 (by simp <;> omega); have hz3 := Blk.lt bo3; obtain ⟨y0, y1, y2, y3, y4, y5, y6, y7, y8, y9, y10⟩ := cells_of bo3; obtain ⟨z0, z1, z2, z3, z4, z5, z6, z7, z8, z9, z10⟩ := free_of bo3))
          all_goals
            go_wp2_with fail
            go_roundw
            case rel =>
              have hy := Hy.out
              refine ⟨k + 1, by omega, by go_num, ?_⟩
              rw [hy]
              exact ⟨far11 m3 (by omega) y, set11 bo3 y, far11 (Blk.fr m5 F3 (by simp <;> omega)) (by omega) y, far11 (Blk.fr n5 F3 (by simp <;> omega)) (by omega) y, far11 (Blk.fr g5 F3 (by simp <;> omega)) (by omega) y, fr11 (fk.trans F3 (by simp <;> omega)) (Or.inr (by omega)) y⟩
            case measure => simp [intOf]; omega
        · obtain rfl : ln' = k := by omega
          clear hlt
          have hi2 := run_inv K' N' E' x1 hi0 ln'
          generalize hx2 : runV K' N' E' ln' x1 = x2 at *
          have Hx2 : Hid _ := hx2
          clear hx2 bH5 mP5 mC5 mD5 bG5 F5 hk
          go_wp2_with fail
          refine (same2_clk pb db x1 _ m5 n5 hi0).mono ?_
          rintro e w6 ⟨rfl, f6⟩
          have m6 : Clk w6 _ x1 := Blk.fr m5 f6 (by simp)
          have k6 : Clk w6 _ x2 := Blk.fr mk f6 (by simp)
          have g6 := Blk.fr g5 f6 (by simp)
          have h6 := Blk.fr bk f6 (by simp)
          have p6 := fk.trans f6 (by simp)
          clear m5 n5 g5 mk bk fk
          obtain ⟨c0, c1, c2, c3, c4, c5, c6, c7, c8, c9, c10⟩ := cells_of g6
          go_wp2_with fail
          clear c0 c1 c2 c3 c4 c5 c6 c7 c8 c9 c10
          refine (same_clk pb x1 _ m6 hi0).mono ?_
          rintro e w7 ⟨rfl, f7⟩
          have m7 : Clk w7 _ x1 := Blk.fr m6 f7 (by simp)
          have k7 : Clk w7 _ x2 := Blk.fr k6 f7 (by simp)
          have g7 := Blk.fr g6 f7 (by simp)
          have h7 := Blk.fr h6 f7 (by simp)
          have p7 := p6.trans f7 (by simp)
          clear m6 k6 g6 h6 p6
          obtain ⟨c0, c1, c2, c3, c4, c5, c6, c7, c8, c9, c10⟩ := cells_of h7
          go_wp2_with fail
          clear c0 c1 c2 c3 c4 c5 c6 c7 c8 c9 c10
          refine (same_clk cb x2 _ k7 hi2).mono ?_
          rintro e w8 ⟨rfl, f8⟩
          have m9 : Clk w8 _ x1 := Blk.fr m7 f8 (by simp)
          have k9 : Clk w8 _ x2 := Blk.fr k7 f8 (by simp)
          have g9 := Blk.fr g7 f8 (by simp)
          have p9 := p7.trans f8 (by simp)
          clear m7 k7 g7 h7 p7
          go_wp2_with fail
          go_loopw [15] (fun v wr => ∃ (k : Nat), k ≤ ln' ∧ v = .int .i64 k ∧ Clk wr pb (runV K' N' E' k x1) ∧ Blk wr gb 40 (runV K' N' E' k x1).arr ∧ Clk wr cb x2 ∧ Fr [] w wr) (fun v _ => ln' - (intOf v).toNat)
          case atStart => exact ⟨0, by omega, rfl, m9, g9, k9, p9⟩
          case round =>
            obtain ⟨k, hk, rfl, mk, bk, n5, fk⟩ := hrel
            by_cases hlt : k < ln'
            · obtain ⟨b, o, rfl, hb, a0, a1, a2⟩ := (hl'.fr fk (Nat.le_refl _) (by simp)).at_ k hlt
              have hi := run_inv K' N' E' x1 hi0 k
              have hd := fun W hW => does_any pb (runV K' N' E' k x1) (K' k) (N' k) (E' k) W hW hi
              rw [show doesV (runV K' N' E' k x1) (K' k) (N' k) (E' k) = runV K' N' E' (k + 1) x1 from rfl] at hd
              clear hi
              generalize runV K' N' E' k x1 = x at mk bk hd
              revert hd
              generalize hy : runV K' N' E' (k + 1) x1 = y
              intro hd
              have Hy : Hid _ := hy
              have Hd : Hid _ := hd
              clear hd hy
              obtain ⟨c0, c1, c2, c3, c4, c5, c6, c7, c8, c9, c10⟩ := cells_of bk
              have hG := Blk.lt bk
              have hsz := fk.size
              go_upto_region 22 with fail
              go_region_with (first
                | (go_at_call 18; refine (Hd.out _ (Blk.drew mk)).mono ?_; rintro e w3 ⟨rfl, f3, m3⟩; have F3 : Fr [pb] wr w3 := Fr.trans ((Fr.refl _ _).drew) f3 (by simp); have bo3 := Blk.fr bk F3 (by simp <;> omega); have hz3 := Blk.lt bo3; obtain ⟨y0, y1, y2, y3, y4, y5, y6, y7, y8, y9, y10⟩ := cells_of bo3; obtain ⟨z0, z1, z2, z3, z4, z5, z6, z7, z8, z9, z10⟩ := free_of bo3))
              all_goals
                go_wp2_with fail
                go_roundw
                case rel =>
                  have hy := Hy.out
                  refine ⟨k + 1, by omega, by go_num, ?_⟩
                  rw [hy]
                  exact ⟨far11 m3 (by omega) y, set11 bo3 y, far11 (Blk.fr n5 F3 (by simp <;> omega)) (by omega) y, fr11 (fk.trans F3 (by simp <;> omega)) (Or.inr (by omega)) y⟩
                case measure => simp [intOf]; omega
            · obtain rfl : ln' = k := by omega
              clear hlt
              have hx2 := Hx2.out
              rw [hx2] at mk
              go_wp2_with fail
              refine (same2_clk _ _ _ _ mk n5 hi2).mono ?_
              rintro e w6 ⟨rfl, f6⟩
              go_wp2_with fail
              refine (known_any _).mono ?_
              rintro e w7 ⟨rfl, f7⟩
              go_wp2_with fail
              go_ret
              exact ⟨rfl, (fk.trans f6 (by simp)).trans f7 (by simp)⟩
end Go.Proofs.Ytkpgkoeclhlidaa
