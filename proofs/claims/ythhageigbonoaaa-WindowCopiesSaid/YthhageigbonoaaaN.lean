import Derived.Test.YthhageigbonoaaaM
import Derived.Deep.DeepCutAuto
namespace Go.Proofs.Ythhageigbonoaaa
open Go.RowKit Go.Deep

abbrev arrW (x : Wn) : Array Value := #[.int .i64 x.a, .int .i64 x.s, .int .i64 x.m, .int .i64 x.l]
abbrev put4 (w : World) (b : Nat) (d : Wn) : World := (((w.setCell ⟨b, 0, none⟩ (.int .i64 d.a)).setCell ⟨b, 1, none⟩ (.int .i64 d.s)).setCell ⟨b, 2, none⟩ (.int .i64 d.m)).setCell ⟨b, 3, none⟩ (.int .i64 d.l)
theorem far4b {w : World} {b g : Nat} {t : TypeId} {cs : Array Value} (h : Blk w g t cs) (hne : g ≠ b) (d : Wn) : Blk (put4 w b d) g t cs := Blk.far (Blk.far (Blk.far (Blk.far h hne _) hne _) hne _) hne _
theorem fr4b {O : List Nat} {a w : World} {b : Nat} (h : Fr O a w) (hp : b ∈ O ∨ a.heap.size ≤ b) (d : Wn) : Fr O a (put4 w b d) := Fr.setCell (Fr.setCell (Fr.setCell (Fr.setCell h hp _) hp _) hp _) hp _
theorem fr1 {O : List Nat} {w w' : World} {b j : Nat} {v : Value} (F : Fr O w w') (h : w.cell? ⟨b, j, none⟩ = some v) (h2 : b ∉ O) : w'.cell? ⟨b, j, none⟩ = some v :=
  (F.cell (p := ⟨b, j, none⟩) (World.block_lt_of_cell? w _ h) h2).trans h

theorem keep8b {w : World} {g h : Nat} {s t : TypeId} {x y : Wn} (b : Blk w g s (arrW x)) (c : Blk w h t (arrW y)) :
    w.cell? ⟨g, 0, none⟩ = some (.int .i64 x.a) ∧ w.cell? ⟨g, 1, none⟩ = some (.int .i64 x.s) ∧ w.cell? ⟨g, 2, none⟩ = some (.int .i64 x.m) ∧ w.cell? ⟨g, 3, none⟩ = some (.int .i64 x.l) ∧ w.cell? ⟨h, 0, none⟩ = some (.int .i64 y.a) ∧ w.cell? ⟨h, 1, none⟩ = some (.int .i64 y.s) ∧ w.cell? ⟨h, 2, none⟩ = some (.int .i64 y.m) ∧ w.cell? ⟨h, 3, none⟩ = some (.int .i64 y.l) := by
  obtain ⟨p0, p1, p2, p3⟩ := four b
  obtain ⟨q0, q1, q2, q3⟩ := four c
  exact ⟨p0, p1, p2, p3, q0, q1, q2, q3⟩

set_option maxRecDepth 100000 in
set_option maxHeartbeats 4000000 in
theorem copies_yes (la lb : Option Addr) (ln lc ln' lc' : Nat) (K N R K' N' R' : Nat → Int) (E E' : Nat → Bool) (w : World) (hl : Acts w w.heap.size la ln K N R E) (hl' : Acts w w.heap.size lb ln' K' N' R' E') (g1 : ln ≤ 40) (g2 : ln' ≤ 40) :
    Calls Try.prog 6 #[.slice la ln lc, .slice lb ln' lc'] w fun e w' => e = .returned (.bool true) ∧ Fr [] w w' := by
  go_enter Try.func6, Try.ntmps6
  go_wp2_with fail
  refine (new_win _).mono ?_
  rintro e w1 ⟨rfl, f1, m1, z1⟩
  go_wp2_with fail
  have bG : Blk (w1.alloc (.cells #[.int .i64 0, .int .i64 0, .int .i64 0, .int .i64 0] 33)) w1.heap.size 33 (arrW ⟨0, 0, 0, 0⟩) := Blk.new _ _ _
  have mG : Win (w1.alloc (.cells #[.int .i64 0, .int .i64 0, .int .i64 0, .int .i64 0] 33)) w.heap.size ⟨0, 0, 0, 0⟩ true := Blk.alloc m1 _
  have fG : Fr [] w (w1.alloc (.cells #[.int .i64 0, .int .i64 0, .int .i64 0, .int .i64 0] 33)) := f1.alloc _
  generalize w1.alloc (.cells #[.int .i64 0, .int .i64 0, .int .i64 0, .int .i64 0] 33) = w2 at *
  have hgb : w.heap.size < w1.heap.size := z1
  generalize w1.heap.size = gb at *
  clear f1 m1 z1
  have hi0 : Inv 0 ⟨0, 0, 0, 0⟩ := by unfold Inv; dsimp only; omega
  have hx0 : ∃ x0 : Wn, x0 = ⟨0, 0, 0, 0⟩ := ⟨_, rfl⟩
  obtain ⟨x0, hx0⟩ := hx0
  rw [← hx0] at hi0 bG mG
  clear hx0
  go_loopw [7] (fun v wr => ∃ (k : Nat), k ≤ ln ∧ v = .int .i64 k ∧ Win wr w.heap.size (runV K N R E k x0) true ∧ Blk wr gb 33 (arrW (runV K N R E k x0)) ∧ Fr [] w wr) (fun v _ => ln - (intOf v).toNat)
  case atStart => exact ⟨0, by omega, rfl, mG, bG, fG⟩
  case round =>
    obtain ⟨k, hk, rfl, mk, bk, fk⟩ := hrel
    by_cases hlt : k < ln
    · obtain ⟨b, o, rfl, hb, a0, a1, a2, a3⟩ := (hl.fr fk (Nat.le_refl _) (by simp)).at_ k hlt
      have hi := run_inv K N R E _ x0 hi0 k
      have hd := fun W hW => does_any w.heap.size (runV K N R E k x0) (K k) (N k) (R k) (E k) W _ (by omega) hi hW
      rw [show doesV (runV K N R E k x0) (K k) (N k) (R k) (E k) = runV K N R E (k + 1) x0 from rfl] at hd
      clear hi
      generalize runV K N R E k x0 = x at mk bk hd
      revert hd
      generalize hy : runV K N R E (k + 1) x0 = y
      intro hd
      have Hy : Hid _ := hy
      have Hd : Hid _ := hd
      clear hd hy
      obtain ⟨c0, c1, c2, c3⟩ := four bk
      have hG := Blk.lt bk
      have hsz := fk.size
      go_upto_region 8 with fail
      go_region_with (first
        | (go_at_call 12; refine (Hd.out _ (Blk.drew mk)).mono ?_; rintro e w3 ⟨rfl, f3, m3⟩; have F3 : Fr [w.heap.size] wr w3 := Fr.trans ((Fr.refl _ _).drew) f3 (by simp); have bo3 := Blk.fr bk F3 (by simp <;> omega); obtain ⟨t0, t1, t2, t3⟩ := four bo3; have hz3 := Blk.lt bo3; have z0 := Blk.frozen bo3 0; have z1 := Blk.frozen bo3 1; have z2 := Blk.frozen bo3 2; have z3 := Blk.frozen bo3 3; have t4 := fr1 F3 a0 (by simp <;> omega); have t5 := fr1 F3 a1 (by simp <;> omega); have t6 := fr1 F3 a2 (by simp <;> omega); have t7 := fr1 F3 a3 (by simp <;> omega)))
      all_goals
        go_wp2_with fail
        go_roundw
        case rel =>
          have hy := Hy.out
          refine ⟨k + 1, by omega, by go_num, ?_⟩
          rw [hy]
          exact ⟨far4b m3 (by omega) y, set4 bo3 _ _ _ _, fr4b (fk.trans F3 (by simp <;> omega)) (Or.inr (by omega)) y⟩
        case measure => simp [intOf]; omega
    · obtain rfl : ln = k := by omega
      clear hlt
      have hi1 := run_inv K N R E _ x0 hi0 ln
      generalize runV K N R E ln x0 = x1 at *
      clear hi0 bG mG fG hl hk
      go_wp2_with fail
      refine (copy_win _ _ _ mk).mono ?_
      rintro e w3 ⟨rfl, f3, mC, zC⟩
      have hP := Blk.lt mk
      have hG := Blk.lt bk
      have hw := fk.size
      have mP3 : Win w3 _ x1 true := Blk.fr mk f3 (by simp)
      have bG3 := Blk.fr bk f3 (by simp)
      have F3 : Fr [] w w3 := fk.trans f3 (by simp)
      generalize hCn : wr.heap.size = cb at *
      clear mk bk fk f3
      go_wp2_with fail
      refine (copy_win _ _ _ mP3).mono ?_
      rintro e w4 ⟨rfl, f4, mD, zD⟩
      have mP4 : Win w4 _ x1 true := Blk.fr mP3 f4 (by simp)
      have mC4 : Win w4 cb x1 true := Blk.fr mC f4 (by simp)
      have bG4 := Blk.fr bG3 f4 (by simp)
      have F4 : Fr [] w w4 := F3.trans f4 (by simp)
      generalize hDn : w3.heap.size = db at *
      clear mP3 mC bG3 F3 f4
      obtain ⟨c0, c1, c2, c3⟩ := four bG4
      go_wp2_with fail
      clear c0 c1 c2 c3
      have bH5 : Blk (w4.alloc (.cells (arrW x1) 33)) w4.heap.size 33 (arrW x1) := Blk.new _ _ _
      have mP5 : Win (w4.alloc (.cells (arrW x1) 33)) _ x1 true := Blk.alloc mP4 _
      have mC5 : Win (w4.alloc (.cells (arrW x1) 33)) _ x1 true := Blk.alloc mC4 _
      have mD5 : Win (w4.alloc (.cells (arrW x1) 33)) _ x1 true := Blk.alloc mD _
      have bG5 := Blk.alloc bG4 (.cells (arrW x1) 33)
      have F5 := F4.alloc (.cells (arrW x1) 33)
      generalize w4.alloc (.cells (arrW x1) 33) = w5 at *
      generalize hHn : w4.heap.size = hb at *
      have o1 : w.heap.size < gb := hgb
      have o2 : gb < cb := by omega
      have o3 : cb < db := by omega
      have o4 : db < hb := by omega
      clear mP4 mC4 mD bG4 F4 hP hG
      clear hCn hDn hHn
      have hi0 := hi1
      clear hi1
      go_loopw [11] (fun v wr => ∃ (k : Nat), k ≤ ln' ∧ v = .int .i64 k ∧ Win wr cb (runV K' N' R' E' k x1) true ∧ Blk wr hb 33 (arrW (runV K' N' R' E' k x1)) ∧ Win wr w.heap.size x1 true ∧ Win wr db x1 true ∧ Blk wr gb 33 (arrW x1) ∧ Fr [] w wr) (fun v _ => ln' - (intOf v).toNat)
      case atStart => exact ⟨0, by omega, rfl, mC5, bH5, mP5, mD5, bG5, F5⟩
      case round =>
        obtain ⟨k, hk, rfl, mk, bk, m5, n5, g5, fk⟩ := hrel
        by_cases hlt : k < ln'
        · obtain ⟨b, o, rfl, hb, a0, a1, a2, a3⟩ := (hl'.fr fk (Nat.le_refl _) (by simp)).at_ k hlt
          have hi := run_inv K' N' R' E' _ x1 hi0 k
          have hd := fun W hW => does_any cb (runV K' N' R' E' k x1) (K' k) (N' k) (R' k) (E' k) W _ (by omega) hi hW
          rw [show doesV (runV K' N' R' E' k x1) (K' k) (N' k) (R' k) (E' k) = runV K' N' R' E' (k + 1) x1 from rfl] at hd
          clear hi
          generalize runV K' N' R' E' k x1 = x at mk bk hd
          revert hd
          generalize hy : runV K' N' R' E' (k + 1) x1 = y
          intro hd
          have Hy : Hid _ := hy
          have Hd : Hid _ := hd
          clear hd hy
          obtain ⟨c0, c1, c2, c3⟩ := four bk
          have hG := Blk.lt bk
          have hsz := fk.size
          go_upto_region 14 with fail
          go_region_with (first
            | (go_at_call 12; refine (Hd.out _ (Blk.drew mk)).mono ?_; rintro e w3 ⟨rfl, f3, m3⟩; have F3 : Fr [cb] wr w3 := Fr.trans ((Fr.refl _ _).drew) f3 (by simp); have bo3 := Blk.fr bk F3 (by simp <;> omega); obtain ⟨t0, t1, t2, t3⟩ := four bo3; have hz3 := Blk.lt bo3; have z0 := Blk.frozen bo3 0; have z1 := Blk.frozen bo3 1; have z2 := Blk.frozen bo3 2; have z3 := Blk.frozen bo3 3; have t4 := fr1 F3 a0 (by simp <;> omega); have t5 := fr1 F3 a1 (by simp <;> omega); have t6 := fr1 F3 a2 (by simp <;> omega); have t7 := fr1 F3 a3 (by simp <;> omega)))
          all_goals
            go_wp2_with fail
            go_roundw
            case rel =>
              have hy := Hy.out
              refine ⟨k + 1, by omega, by go_num, ?_⟩
              rw [hy]
              exact ⟨far4b m3 (by omega) y, set4 bo3 _ _ _ _, far4b (Blk.fr m5 F3 (by simp <;> omega)) (by omega) y, far4b (Blk.fr n5 F3 (by simp <;> omega)) (by omega) y, far4b (Blk.fr g5 F3 (by simp <;> omega)) (by omega) y, fr4b (fk.trans F3 (by simp <;> omega)) (Or.inr (by omega)) y⟩
            case measure => simp [intOf]; omega
        · obtain rfl : ln' = k := by omega
          clear hlt
          have hi1 := hi0
          generalize hx2 : runV K' N' R' E' ln' x1 = x2 at *
          have Hx2 : Hid _ := hx2
          clear hx2 bH5 mP5 mC5 mD5 bG5 F5 hk
          go_upto_region 15 with fail
          have e1 := neq33_same
          have e2 := eqg33
          have e3 := eqV_eql33 x1 x2
          have hss := fun W hP hC => same_win w.heap.size cb x1 x2 W hP hC
          have hsd := fun W hP hD => same_win w.heap.size db x1 x1 W hP hD
          simp only [eqV_same] at hsd
          generalize eqV x1 x2 = B at *
          have Hss : Hid _ := hss
          have Hsd : Hid _ := hsd
          clear hss hsd
          obtain ⟨c0, c1, c2, c3⟩ := four g5
          obtain ⟨d0, d1, d2, d3⟩ := four bk
          go_cut [85] (fun s85 wx => s85 = .bool false ∧ Win wx w.heap.size x1 true ∧ Win wx cb x2 true ∧ Blk wx gb 33 (arrW x1) ∧ Fr [] w wx)
          case first =>
            go_region_held3 (fun w' => w'.cell? ⟨gb, 0, none⟩ = some (.int .i64 x1.a) ∧ w'.cell? ⟨gb, 1, none⟩ = some (.int .i64 x1.s) ∧ w'.cell? ⟨gb, 2, none⟩ = some (.int .i64 x1.m) ∧ w'.cell? ⟨gb, 3, none⟩ = some (.int .i64 x1.l) ∧ w'.cell? ⟨hb, 0, none⟩ = some (.int .i64 x2.a) ∧ w'.cell? ⟨hb, 1, none⟩ = some (.int .i64 x2.s) ∧ w'.cell? ⟨hb, 2, none⟩ = some (.int .i64 x2.m) ∧ w'.cell? ⟨hb, 3, none⟩ = some (.int .i64 x2.l))
              (first | (with_reducible exact keep8b g9 h9) | (with_reducible exact keep8b g8 h8) | (with_reducible exact keep8b g7 h7) | (with_reducible exact keep8b g6 h6) | go_keep)
              (first
              | (go_at_call 19; refine (Hss.out _ m8 k8).mono ?_; rintro e w9 ⟨rfl, f9⟩; have m9 : Win w9 _ x1 true := Blk.fr m8 f9 (by simp); have k9 : Win w9 _ x2 true := Blk.fr k8 f9 (by simp); have g9 := Blk.fr g8 f9 (by simp); have h9 := Blk.fr h8 f9 (by simp); have p9 := p8.trans f9 (by simp))
              | (go_at_call 13; refine (state_win _ _ _ k7).mono ?_; rintro e w8 ⟨rfl, f8⟩; have m8 : Win w8 _ x1 true := Blk.fr m7 f8 (by simp); have k8 : Win w8 _ x2 true := Blk.fr k7 f8 (by simp); have g8 := Blk.fr g7 f8 (by simp); have h8 := Blk.fr h7 f8 (by simp); have p8 := p7.trans f8 (by simp))
              | (go_at_call 13; refine (state_win _ _ _ m6).mono ?_; rintro e w7 ⟨rfl, f7⟩; have m7 : Win w7 _ x1 true := Blk.fr m6 f7 (by simp); have k7 : Win w7 _ x2 true := Blk.fr k6 f7 (by simp); have g7 := Blk.fr g6 f7 (by simp); have h7 := Blk.fr h6 f7 (by simp); have p7 := p6.trans f7 (by simp))
              | (go_at_call 19; refine (Hsd.out _ (Blk.drew m5) (Blk.drew n5)).mono ?_; rintro e w6 ⟨rfl, f6⟩; have F6 := Fr.trans ((Fr.refl [] _).drew) f6 (by simp); have m6 : Win w6 _ x1 true := Blk.fr m5 F6 (by simp); have k6 : Win w6 _ x2 true := Blk.fr mk F6 (by simp); have g6 := Blk.fr g5 F6 (by simp); have h6 := Blk.fr bk F6 (by simp); have p6 := fk.trans F6 (by simp)))
            all_goals (go_wp2_with fail; go_meet; exact ⟨by simp, m9, k9, g9, p9⟩)
          case rest =>
            obtain ⟨rfl, m9, k9, g9, p9⟩ := hcut
            clear m5 n5 g5 mk bk fk c0 c1 c2 c3 d0 d1 d2 d3 e1 e2 e3
            go_wp2_with fail
            go_loopw [12] (fun v wr => ∃ (k : Nat), k ≤ ln' ∧ v = .int .i64 k ∧ Win wr w.heap.size (runV K' N' R' E' k x1) true ∧ Blk wr gb 33 (arrW (runV K' N' R' E' k x1)) ∧ Win wr cb x2 true ∧ Fr [] w wr) (fun v _ => ln' - (intOf v).toNat)
            case atStart => exact ⟨0, by omega, rfl, m9, g9, k9, p9⟩
            case round =>
              obtain ⟨k, hk, rfl, mk, bk, n5, fk⟩ := hrel
              by_cases hlt : k < ln'
              · obtain ⟨b, o, rfl, hb, a0, a1, a2, a3⟩ := (hl'.fr fk (Nat.le_refl _) (by simp)).at_ k hlt
                have hi := run_inv K' N' R' E' _ x1 hi0 k
                have hd := fun W hW => does_any w.heap.size (runV K' N' R' E' k x1) (K' k) (N' k) (R' k) (E' k) W _ (by omega) hi hW
                rw [show doesV (runV K' N' R' E' k x1) (K' k) (N' k) (R' k) (E' k) = runV K' N' R' E' (k + 1) x1 from rfl] at hd
                clear hi
                generalize runV K' N' R' E' k x1 = x at mk bk hd
                revert hd
                generalize hy : runV K' N' R' E' (k + 1) x1 = y
                intro hd
                have Hy : Hid _ := hy
                have Hd : Hid _ := hd
                clear hd hy
                obtain ⟨c0, c1, c2, c3⟩ := four bk
                have hG := Blk.lt bk
                have hsz := fk.size
                go_upto_region 20 with fail
                go_region_with (first
                  | (go_at_call 12; refine (Hd.out _ (Blk.drew mk)).mono ?_; rintro e w3 ⟨rfl, f3, m3⟩; have F3 : Fr [w.heap.size] wr w3 := Fr.trans ((Fr.refl _ _).drew) f3 (by simp); have bo3 := Blk.fr bk F3 (by simp <;> omega); obtain ⟨t0, t1, t2, t3⟩ := four bo3; have hz3 := Blk.lt bo3; have z0 := Blk.frozen bo3 0; have z1 := Blk.frozen bo3 1; have z2 := Blk.frozen bo3 2; have z3 := Blk.frozen bo3 3; have t4 := fr1 F3 a0 (by simp <;> omega); have t5 := fr1 F3 a1 (by simp <;> omega); have t6 := fr1 F3 a2 (by simp <;> omega); have t7 := fr1 F3 a3 (by simp <;> omega)))
                all_goals
                  go_wp2_with fail
                  go_roundw
                  case rel =>
                    have hy := Hy.out
                    refine ⟨k + 1, by omega, by go_num, ?_⟩
                    rw [hy]
                    exact ⟨far4b m3 (by omega) y, set4 bo3 _ _ _ _, far4b (Blk.fr n5 F3 (by simp <;> omega)) (by omega) y, fr4b (fk.trans F3 (by simp <;> omega)) (Or.inr (by omega)) y⟩
                  case measure => simp [intOf]; omega
              · obtain rfl : ln' = k := by omega
                clear hlt
                have hx2 := Hx2.out
                rw [hx2] at mk
                have hss := fun W hP hC => same_win w.heap.size cb x2 x2 W hP hC
                simp only [eqV_same] at hss
                go_wp2_with fail
                refine (hss _ mk n5).mono ?_
                rintro e w6 ⟨rfl, f6⟩
                go_wp2_with fail
                refine (known_any _).mono ?_
                rintro e w7 ⟨rfl, f7⟩
                go_wp2_with fail
                go_ret
                exact ⟨rfl, (fk.trans f6 (by simp)).trans f7 (by simp)⟩
end Go.Proofs.Ythhageigbonoaaa
