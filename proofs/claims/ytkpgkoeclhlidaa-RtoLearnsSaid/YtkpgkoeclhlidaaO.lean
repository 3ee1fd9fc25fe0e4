import Derived.Test.YtkpgkoeclhlidaaN
namespace Go.Proofs.Ytkpgkoeclhlidaa
open Go.RowKit Go.Deep

theorem r4 {w : World} {b : Nat} {t : TypeId} {v0 v1 v2 v3 : Value} (h : Blk w b t #[v0, v1, v2, v3]) :
    w.cell? ⟨b, 0, none⟩ = some v0 ∧ w.cell? ⟨b, 1, none⟩ = some v1 ∧ w.cell? ⟨b, 2, none⟩ = some v2 ∧ w.cell? ⟨b, 3, none⟩ = some v3 :=
  ⟨by simpa using Blk.cell h 0, by simpa using Blk.cell h 1, by simpa using Blk.cell h 2, by simpa using Blk.cell h 3⟩

set_option maxRecDepth 100000 in
set_option maxHeartbeats 4000000 in
theorem play_yes (f l m t : Int) (la : Option Addr) (ln lc : Nat) (K N : Nat → Int) (E : Nat → Bool) (w : World) (hl : Acts w w.heap.size la ln K N E) (g1 : ln ≤ 80)
    (h1 : 1 ≤ l) (h2 : l ≤ f) (h3 : f ≤ m) (h4 : m ≤ 65536) (h5 : 1 ≤ t) (h6 : t ≤ 100) :
    Calls Try.prog 5 #[agR f l m t, .slice la ln lc] w fun e w' => e = .returned (.bool true) ∧ Fr [] w w' := by
  go_enter Try.func5, Try.ntmps5
  go_wp2_with fail
  have bR : Blk (w.alloc (.cells #[.int .i64 f, .int .i64 l, .int .i64 m, .int .i64 t] 23)) w.heap.size 23 #[.int .i64 f, .int .i64 l, .int .i64 m, .int .i64 t] := Blk.new _ _ _
  have f0 : Fr [] w (w.alloc (.cells #[.int .i64 f, .int .i64 l, .int .i64 m, .int .i64 t] 23)) := (Fr.refl _ _).alloc _
  have z0 : w.heap.size < (w.alloc (.cells #[.int .i64 f, .int .i64 l, .int .i64 m, .int .i64 t] 23)).heap.size := by simp
  generalize w.alloc (.cells #[.int .i64 f, .int .i64 l, .int .i64 m, .int .i64 t] 23) = w0 at *
  refine (new_clk f l m t _ h1 h2 h3 h4 h5 h6).mono ?_
  rintro e w1 ⟨g, rfl, hg, f1, m1, z1⟩
  have bR1 := Blk.fr bR f1 (by simp)
  have F1 : Fr [] w w1 := f0.trans f1 (by simp)
  have hgr : w.heap.size < g := by omega
  clear bR f0 f1
  have q0 : w1.cell? ⟨w.heap.size, 0, none⟩ = some (.int .i64 f) := by simpa using Blk.cell bR1 0
  have q1 : w1.cell? ⟨w.heap.size, 1, none⟩ = some (.int .i64 l) := by simpa using Blk.cell bR1 1
  have q2 : w1.cell? ⟨w.heap.size, 2, none⟩ = some (.int .i64 m) := by simpa using Blk.cell bR1 2
  have q3 : w1.cell? ⟨w.heap.size, 3, none⟩ = some (.int .i64 t) := by simpa using Blk.cell bR1 3
  go_wp2_with fail
  refine (rright_yes f l m t _ h1 h2 h3 h4 h5 h6).mono ?_
  rintro e w2 ⟨rfl, f2⟩
  have bR2 := Blk.fr bR1 f2 (by simp)
  have m2 : Clk w2 g _ := Blk.fr m1 f2 (by simp)
  have F2 : Fr [] w w2 := F1.trans f2 (by simp)
  clear bR1 m1 F1 f2 q0 q1 q2 q3 z0 z1 hg
  have q0 : w2.cell? ⟨w.heap.size, 0, none⟩ = some (.int .i64 f) := by simpa using Blk.cell bR2 0
  have q1 : w2.cell? ⟨w.heap.size, 1, none⟩ = some (.int .i64 l) := by simpa using Blk.cell bR2 1
  have q2 : w2.cell? ⟨w.heap.size, 2, none⟩ = some (.int .i64 m) := by simpa using Blk.cell bR2 2
  have q3 : w2.cell? ⟨w.heap.size, 3, none⟩ = some (.int .i64 t) := by simpa using Blk.cell bR2 3
  go_wp2_with fail
  refine (rnew f l m t _).mono ?_
  rintro e w3 ⟨rfl, f3⟩
  have bR3 := Blk.fr bR2 f3 (by simp)
  have m3 : Clk w3 g _ := Blk.fr m2 f3 (by simp)
  have F3 : Fr [] w w3 := F2.trans f3 (by simp)
  clear bR2 m2 F2 f3 q0 q1 q2 q3
  have hi0 : Inv (newV f l m t) := new_inv h1 h2 h3 h4 h5 h6
  have same0 : (newV f l m t).f = f ∧ (newV f l m t).l = l ∧ (newV f l m t).m = m ∧ (newV f l m t).t = t := ⟨rfl, rfl, rfl, rfl⟩
  generalize newV f l m t = c0 at *
  have hz3 := Blk.lt m3
  go_wp2_with ((with_reducible refine gate_store 40 (.tmp 7) ?_); refine wpList_store_blk rfl 40 (.tmp 7) _ rfl w3.heap.size 40 ck0.arr c0.arr rfl rfl (Blk.new _ _ _) rfl (by kernel_rfl) (arr_one c0) ?_; intro w4 B4 F4)
  have bR4 := Blk.fr (Blk.alloc bR3 _) F4 (by simp; have := Blk.lt bR3; omega)
  have m4 : Clk w4 g c0 := Blk.fr (Blk.alloc m3 _) F4 (by simp; omega)
  have hsz := F3.size
  have F5 : Fr [] w w4 := Fr.trans (F3.alloc _) F4 (by simp; omega)
  have hgb : g < w3.heap.size := hz3
  generalize w3.heap.size = gb at *
  clear F4 hz3 bR3 F3 m3
  go_loopw [8] (fun v8 wr => ∃ (k : Nat) (x : Ck), k ≤ ln ∧ v8 = .int .i64 k ∧ Inv x ∧ (x.f = f ∧ x.l = l ∧ x.m = m ∧ x.t = t) ∧ Clk wr g x ∧ Blk wr gb 40 x.arr ∧ Blk wr w.heap.size 23 #[.int .i64 f, .int .i64 l, .int .i64 m, .int .i64 t] ∧ Fr [] w wr) (fun v8 _ => ln - (intOf v8).toNat)
  case atStart => exact ⟨0, c0, by omega, rfl, hi0, same0, m4, B4, bR4, F5⟩
  case round =>
    obtain ⟨k, x, hk, rfl, hi, hsame, mk, bk, bR, fk⟩ := hrel
    have Hsame : Hid _ := hsame
    clear hsame
    clear same0 hi0 m4 B4 bR4 F5
    by_cases hlt : k < ln
    · obtain ⟨b, o, rfl, hb, a0, a1, a2⟩ := (hl.fr fk (Nat.le_refl _) (by simp)).at_ k hlt
      obtain ⟨c0, c1, c2, c3, c4, c5, c6, c7, c8, c9, c10⟩ := cells_of bk
      have hgb2 := Blk.lt bk
      have hsz2 := fk.size
      have n1 : gb ≠ wr.heap.size := by omega
      have n2 : b ≠ wr.heap.size := by omega
      go_upto_region 10 with fail
      go_cut [9, 10] (fun s9 s10 wx => ∃ ob : Nat, s9 = ptr ob ∧ s10 = .bool true ∧ gb < ob ∧ Blk wx ob 40 (doesV x (K k) (N k) (E k)).arr ∧ Clk wx g (doesV x (K k) (N k) (E k)) ∧ Blk wx gb 40 x.arr ∧ Blk wx w.heap.size 23 #[.int .i64 f, .int .i64 l, .int .i64 m, .int .i64 t] ∧ Fr [] w wx)
      case first =>
        have hd := fun W hW => does_any g x (K k) (N k) (E k) W hW hi
        have hds := does_inv hi (K k) (N k) (E k)
        generalize doesV x (K k) (N k) (E k) = y at *
        have Hd : Hid _ := hd
        clear hd
        go_region_held3 (fun w' => w'.cell? ⟨gb, 0, none⟩ = some (.int .i64 x.f) ∧ w'.cell? ⟨gb, 1, none⟩ = some (.int .i64 x.l) ∧ w'.cell? ⟨gb, 2, none⟩ = some (.int .i64 x.m) ∧ w'.cell? ⟨gb, 3, none⟩ = some (.int .i64 x.t) ∧ w'.cell? ⟨gb, 4, none⟩ = some (.bool x.is) ∧ w'.cell? ⟨gb, 5, none⟩ = some (.int .i64 x.tm) ∧ w'.cell? ⟨gb, 6, none⟩ = some (.int .i64 x.sp) ∧ w'.cell? ⟨gb, 7, none⟩ = some (.int .i64 x.wt) ∧ w'.cell? ⟨gb, 8, none⟩ = some (.int .i64 x.si) ∧ w'.cell? ⟨gb, 9, none⟩ = some (.int .i64 x.tr) ∧ w'.cell? ⟨gb, 10, none⟩ = some (.bool x.rn) ∧ w'.cell? ⟨b, o + k * 3, none⟩ = some (.int .i64 (K k)) ∧ w'.cell? ⟨b, o + k * 3 + 1, none⟩ = some (.int .i64 (N k)) ∧ w'.cell? ⟨b, o + k * 3 + 2, none⟩ = some (.bool (E k)))
          (first
            | (with_reducible exact keep14 (cells_of bg5) u0 u1 u2)
            | (with_reducible exact keep14 (cells_of bg3) t0 t1 t2)
            | (with_reducible exact keep14 (cells_of (Blk.alloc bg3 _)) (al1 t0 _) (al1 t1 _) (al1 t2 _))
            | (with_reducible exact keep14 (cells_of (Blk.alloc bk _)) (al1 a0 _) (al1 a1 _) (al1 a2 _))
            | (with_reducible exact keep14 (cells_of (Blk.drew (Blk.alloc bk _))) (al1d a0 _) (al1d a1 _) (al1d a2 _))
            | (with_reducible exact keep14 (cells_of (Blk.alloc (Blk.drew bk) _)) (al1 (dr1 a0) _) (al1 (dr1 a1) _) (al1 (dr1 a2) _))
            | go_keep)
          (first
          | (go_at_call 18; refine (Hd.out _ (Blk.drew mk)).mono ?_; rintro e w3 ⟨rfl, f3, m3⟩; have F3 : Fr [g] wr w3 := Fr.trans ((Fr.refl _ _).drew) f3 (by simp); have bg3 := Blk.fr bk F3 (by simp; omega); have t0 := fr3 F3 a0 (by simp; omega); have t1 := fr3 F3 a1 (by simp; omega); have t2 := fr3 F3 a2 (by simp; omega))
          | (go_at_call 18; refine (Hd.out _ (Blk.alloc (Blk.drew mk) _)).mono ?_; rintro e w3 ⟨rfl, f3, m3⟩; have F3 : Fr [g] wr w3 := Fr.trans (((Fr.refl _ _).drew).alloc _) f3 (by simp); have bg3 := Blk.fr bk F3 (by simp; omega); have t0 := fr3 F3 a0 (by simp; omega); have t1 := fr3 F3 a1 (by simp; omega); have t2 := fr3 F3 a2 (by simp; omega); have bo3 : Blk w3 wr.heap.size 40 ck0.arr := Blk.fr (w := wr.drew.alloc _) (Blk.new wr.drew _ _) f3 (by simp; omega); have hz3 := Blk.lt bo3; obtain ⟨y0, y1, y2, y3, y4, y5, y6, y7, y8, y9, y10⟩ := cells_of (c := ck0) bo3; obtain ⟨z0, z1, z2, z3, z4, z5, z6, z7, z8, z9, z10⟩ := free_of bo3; have bg5 := far11 bg3 n1 y; have G5 := fr11 (b := wr.heap.size) (Fr.refl [wr.heap.size] w3) (Or.inl (by simp)) y; have u0 := fr3 G5 t0 (by simp; omega); have u1 := fr3 G5 t1 (by simp; omega); have u2 := fr3 G5 t2 (by simp; omega)))
        · go_wp2_with fail
          go_meet
          have F4 : Fr [] w w3 := fk.trans F3 (by simp; omega)
          have hz := F3.size
          exact ⟨w3.heap.size, rfl, rfl, by omega, Blk.new _ _ _, Blk.alloc m3 _, Blk.alloc bg3 _, Blk.alloc (Blk.fr bR F3 (by simp; omega)) _, F4.alloc _⟩
        · go_wp2_with fail
          go_meet
          have F4 : Fr [] w w3 := fk.trans F3 (by simp; omega)
          have hgw := Blk.lt mk
          exact ⟨wr.heap.size, rfl, rfl, by omega, set11 (c := ck0) bo3 y, far11 m3 (by omega) y, bg5, far11 (Blk.fr bR F3 (by simp; omega)) (by omega) y, fr11 F4 (Or.inr hsz2) y⟩
      case rest =>
        obtain ⟨ob, rfl, rfl, hob, bo, mo, bg, bR5, fo⟩ := hcut
        have hy := does_inv hi (K k) (N k) (E k)
        have hs5 := does_same x (K k) (N k) (E k)
        generalize doesV x (K k) (N k) (E k) = y at *
        clear a0 a1 a2 c0 c1 c2 c3 c4 c5 c6 c7 c8 c9 c10 mk bk bR fk hgb2 hsz2 n1 n2
        have hsame := Hsame.out
        have d1 : decide (y.wt < l) = false := by have := hy.w1; simp; omega
        have d2 : decide (m < y.wt) = false := by have := hy.w2; simp; omega
        have d3 : decide (t < y.tr) = false := by have := hy.r1; simp; omega
        have hsame5 : y.f = f ∧ y.l = l ∧ y.m = m ∧ y.t = t := by omega
        clear hsame hs5
        have Hsame5 : Hid _ := hsame5
        clear hsame5
        go_upto_region 11 with fail
        go_cut [78] (fun s78 wx => s78 = .bool false ∧ Blk wx ob 40 y.arr ∧ Clk wx g y ∧ Blk wx gb 40 x.arr ∧ Blk wx w.heap.size 23 #[.int .i64 f, .int .i64 l, .int .i64 m, .int .i64 t] ∧ Fr [] w wx)
        case first =>
          obtain ⟨c0, c1, c2, c3, c4, c5, c6, c7, c8, c9, c10⟩ := cells_of bo
          obtain ⟨q0, q1, q2, q3⟩ := r4 bR5
          go_region_held3 (fun w' => w'.cell? ⟨ob, 0, none⟩ = some (.int .i64 y.f) ∧ w'.cell? ⟨ob, 1, none⟩ = some (.int .i64 y.l) ∧ w'.cell? ⟨ob, 2, none⟩ = some (.int .i64 y.m) ∧ w'.cell? ⟨ob, 3, none⟩ = some (.int .i64 y.t) ∧ w'.cell? ⟨ob, 4, none⟩ = some (.bool y.is) ∧ w'.cell? ⟨ob, 5, none⟩ = some (.int .i64 y.tm) ∧ w'.cell? ⟨ob, 6, none⟩ = some (.int .i64 y.sp) ∧ w'.cell? ⟨ob, 7, none⟩ = some (.int .i64 y.wt) ∧ w'.cell? ⟨ob, 8, none⟩ = some (.int .i64 y.si) ∧ w'.cell? ⟨ob, 9, none⟩ = some (.int .i64 y.tr) ∧ w'.cell? ⟨ob, 10, none⟩ = some (.bool y.rn) ∧ w'.cell? ⟨w.heap.size, 1, none⟩ = some (.int .i64 l) ∧ w'.cell? ⟨w.heap.size, 2, none⟩ = some (.int .i64 m) ∧ w'.cell? ⟨w.heap.size, 3, none⟩ = some (.int .i64 t))
            (first
              | (with_reducible exact keep14 (cells_of bo6) p1 p2 p3)
              | go_keep)
            (first
            | (go_at_call 19; refine (same_clk g y _ (Blk.drew mo) hy).mono ?_; rintro e w6 ⟨rfl, f6⟩; have F6 := Fr.trans ((Fr.refl [] _).drew) f6 (by simp); have bo6 := Blk.fr bo F6 (by simp); have mo6 : Clk w6 g y := Blk.fr mo F6 (by simp); have bg6 := Blk.fr bg F6 (by simp); have bR6 := Blk.fr bR5 F6 (by simp); have p1 := fr3 F6 q1 (by simp); have p2 := fr3 F6 q2 (by simp); have p3 := fr3 F6 q3 (by simp))
            | (go_at_call 14; refine (wait_clk g y _ mo6 hy).mono ?_; rintro e w7 ⟨rfl, rfl⟩)
            | (go_at_call 20; refine (tries_clk g y _ mo6 hy).mono ?_; rintro e w7 ⟨rfl, rfl⟩))
          all_goals (go_wp2_with fail; go_meet; exact ⟨rfl, bo6, mo6, bg6, bR6, fo.trans F6 (by simp)⟩)
        case rest =>
          obtain ⟨rfl, bo6, mo6, bg6, bR6, fo6⟩ := hcut
          clear bo mo bg bR5 fo d1 d2 d3
          go_wp2_with (first | ((with_reducible refine gate_load 40 (.tmp 9) ?_); refine wpList_load_blk rfl 40 (.tmp 9) rfl ob 40 y.arr _ rfl bo6 Try.underlying40 rfl rfl ?_) | ((with_reducible refine gate_store 40 (.tmp 7) ?_); refine wpList_store_blk rfl 40 (.tmp 7) _ rfl gb 40 x.arr y.arr rfl rfl bg6 rfl (by kernel_rfl) (arr_one y) ?_; intro w8 B8 F8))
          go_roundw
          case rel =>
            have := fo6.size
            exact ⟨k + 1, y, by omega, by go_num, hy, Hsame5.out, Blk.fr mo6 F8 (by simp; omega), B8, Blk.fr bR6 F8 (by simp; omega), fo6.trans F8 (by simp; omega)⟩
          case measure => simp [intOf]; omega
    · go_wp2_with fail
      refine (known_any _).mono ?_
      rintro e w5 ⟨rfl, f5⟩
      go_wp2_with fail
      go_ret
      exact ⟨rfl, fk.trans f5 (by simp)⟩
end Go.Proofs.Ytkpgkoeclhlidaa
