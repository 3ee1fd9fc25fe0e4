import Derived.Test.YtkpgkoeclhlidaaO
import Derived.Test.YtkpgkoeclhlidaaKit2
import Derived.Test.YtkpgkoeclhlidaaVa
namespace Go.Proofs.Ytkpgkoeclhlidaa
open Go.RowKit Go.Deep

set_option maxRecDepth 100000 in
set_option maxHeartbeats 4000000 in
theorem gives_yes (f l m t : Int) (la : Option Addr) (ln lc : Nat) (zs : Nat → Int) (now : Int) (w : World) (hl : Reads w w.heap.size la ln (fun i => .int .i64 (zs i))) (g1 : ln ≤ 20) (n0 : 0 ≤ now) (n1 : now ≤ 1073741824)
    (h1 : 1 ≤ l) (h2 : l ≤ f) (h3 : f ≤ m) (h4 : m ≤ 65536) (h5 : 1 ≤ t) (h6 : t ≤ 100) :
    Calls Try.prog 3 #[agR f l m t, .slice la ln lc, .int .i64 now] w fun e w' => e = .returned (.bool true) ∧ Fr [] w w' := by
  go_enter Try.func3, Try.ntmps3
  go_wp2_with fail
  have bR : Blk (w.alloc (.cells #[.int .i64 f, .int .i64 l, .int .i64 m, .int .i64 t] 23)) w.heap.size 23 #[.int .i64 f, .int .i64 l, .int .i64 m, .int .i64 t] := Blk.new _ _ _
  have f0 : Fr [] w (w.alloc (.cells #[.int .i64 f, .int .i64 l, .int .i64 m, .int .i64 t] 23)) := (Fr.refl _ _).alloc _
  have z0 : w.heap.size < (w.alloc (.cells #[.int .i64 f, .int .i64 l, .int .i64 m, .int .i64 t] 23)).heap.size := by simp
  generalize w.alloc (.cells #[.int .i64 f, .int .i64 l, .int .i64 m, .int .i64 t] 23) = w0 at *
  refine (new_clk f l m t _ h1 h2 h3 h4 h5 h6).mono ?_
  rintro e w1 ⟨pb, rfl, hg, f1, m1, z1⟩
  have bR1 := Blk.fr bR f1 (by simp)
  have F1 : Fr [] w w1 := f0.trans f1 (by simp)
  have hgr : w.heap.size < pb := by omega
  clear bR f0 f1
  have hi0 : Inv (newV f l m t) := new_inv h1 h2 h3 h4 h5 h6
  have hs0 : (newV f l m t).m = m ∧ (newV f l m t).t = t ∧ (newV f l m t).rn = false := ⟨rfl, rfl, rfl⟩
  generalize newV f l m t = x0 at *
  go_wp2_with fail
  go_loopw [9] (fun v wr => ∃ (k : Nat) (x : Ck), k ≤ ln ∧ v = .int .i64 k ∧ Inv x ∧ (x.m = m ∧ x.t = t ∧ x.rn = false) ∧ Clk wr pb x ∧ Blk wr w.heap.size 23 #[.int .i64 f, .int .i64 l, .int .i64 m, .int .i64 t] ∧ Fr [] w wr) (fun v _ => ln - (intOf v).toNat)
  case atStart => exact ⟨0, x0, by omega, rfl, hi0, hs0, m1, bR1, F1⟩
  case round =>
    obtain ⟨k, x, hk, rfl, hi, hs, mk, bR, fk⟩ := hrel
    clear hi0 hs0 m1 bR1 F1
    have Hs : Hid _ := hs
    clear hs
    by_cases hlt : k < ln
    · obtain ⟨ad, rfl, hb, hc⟩ := (hl.fr fk (Nat.le_refl _) (by simp)) k hlt
      dsimp only at hc
      go_wp2_with fail
      refine (sample_clk _ _ _ _ mk hi).mono ?_
      rintro e w2 ⟨rfl, f2, m2⟩
      have bR2 := Blk.fr bR f2 (by simp <;> omega)
      have F2 : Fr [] w w2 := fk.trans f2 (by have := fk.size; simp <;> omega)
      have i2 := sample_inv hi (zs k)
      have s2 := sample_same x (zs k)
      have r2 := sample_rn x (zs k)
      have hs := Hs.out
      have hs2 : (sampleV x (zs k)).1.m = m ∧ (sampleV x (zs k)).1.t = t ∧ (sampleV x (zs k)).1.rn = false := ⟨s2.2.2.1.trans hs.1, s2.2.2.2.trans hs.2.1, r2.trans hs.2.2⟩
      clear s2 r2 hs
      have Hs2 : Hid _ := hs2
      clear hs2
      generalize sampleV x (zs k) = X at *
      go_wp2_with fail
      go_roundw
      case rel => exact ⟨k + 1, X.1, by omega, by go_num, i2, Hs2.out, m2, bR2, F2⟩
      case measure => simp [intOf]; omega
    · have hs := Hs.out
      obtain ⟨sm, st, sr⟩ := hs
      have hst := start_ok sr n0 n1
      have hsi := start_inv hi now
      rw [hst] at hsi
      go_wp2_with fail
      clear hlt hk
      refine (start_clk _ _ now _ mk hi).mono ?_
      rw [hst]
      rintro e w2 ⟨rfl, f2, m2⟩
      dsimp only at m2 hsi
      have bR2 := Blk.fr bR f2 (by simp <;> omega)
      have F2 : Fr [] w w2 := fk.trans f2 (by have := fk.size; simp <;> omega)
      have hx2 : ∃ x2 : Ck, x2 = { x with rn := true, si := now, tr := 0 } := ⟨_, rfl⟩
      obtain ⟨x2, hx2⟩ := hx2
      rw [← hx2] at hsi m2
      have e1 : x2.m = m := by rw [hx2]; exact sm
      have e2 : x2.t = t := by rw [hx2]; exact st
      have e3 : x2.rn = true := by rw [hx2]
      have e4 : x2.tr = 0 := by rw [hx2]
      have e5 : x2.si = now := by rw [hx2]
      clear hx2 hst mk bR fk hi sm st sr
      have Hs2 : Hid (x2.m = m ∧ x2.t = t ∧ x2.rn = true ∧ x2.tr = 0 ∧ x2.si = now) := ⟨e1, e2, e3, e4, e5⟩
      clear e1 e2 e3 e4 e5 Hs
      go_wp2_with fail
      have hmul : m * 0 = 0 := by simp
      go_loopw [10, 11] (fun v10 v11 wr => ∃ (k : Nat) (at_ P : Int) (y : Ck), (k : Int) ≤ t + 1 ∧ v10 = .int .i64 at_ ∧ v11 = .int .i64 k ∧ P = m * (k : Int) ∧ now ≤ at_ ∧ at_ ≤ now + P ∧ at_ ≤ now + 65536 * k ∧ Inv y ∧ Hid (y.m = m ∧ y.t = t ∧ ((k : Int) ≤ t → y.rn = true ∧ y.tr = k ∧ y.si = at_) ∧ ((k : Int) = t + 1 → y.rn = false)) ∧ Clk wr pb y ∧ Blk wr w.heap.size 23 #[.int .i64 f, .int .i64 l, .int .i64 m, .int .i64 t] ∧ Fr [] w wr) (fun _ v11 _ => (t + 1 - intOf v11).toNat)
      case atStart =>
        obtain ⟨e1, e2, e3, e4, e5⟩ := Hs2.out
        exact ⟨0, now, 0, x2, by omega, rfl, rfl, by simp, by omega, by omega, by omega, hsi, ⟨e1, e2, fun _ => ⟨e3, e4, e5⟩, fun h => by omega⟩, m2, bR2, F2⟩
      case round =>
        obtain ⟨k, at_, P, y, hk, rfl, rfl, hP, a0, a1, a2, hi, Hy, mk, bR, fk⟩ := hrel
        have HP : Hid _ := hP
        clear hP hsi Hs2 m2 bR2 F2
        obtain ⟨q0, q1, q2, q3⟩ := r4 bR
        by_cases hkt : (k : Int) ≤ t
        · obtain ⟨ym, yt, hy1, _⟩ := Hy.out
          obtain ⟨yr, ytr, ysi⟩ := hy1 hkt
          clear hy1
          have hwt := hi.w2
          have hw1 := hi.w1
          have hl1 := hi.l1
          obtain ⟨D1, D2, z, hL, iz, zm, zt, zlt, zeq⟩ := gives_step hi yr (by omega)
          rw [ysi] at D1 D2 hL zlt
          rw [ytr, yt] at hL
          have Hz : Hid (z.m = m ∧ z.t = t ∧ (((k + 1 : Nat) : Int) ≤ t → z.rn = true ∧ z.tr = ((k + 1 : Nat) : Int) ∧ z.si = at_ + y.wt) ∧ (((k + 1 : Nat) : Int) = t + 1 → z.rn = false)) := by
            refine ⟨zm.trans ym, zt.trans yt, fun h => ?_, fun h => ?_⟩
            · obtain ⟨c1, c2, c3⟩ := zlt (by omega)
              exact ⟨c1, by rw [c2, ytr]; push_cast; rfl, c3⟩
            · exact zeq (by omega)
          have hym : y.wt ≤ m := by omega
          clear zm zt zlt zeq ym yt ysi ytr Hy
          have hrun := fun W hW => runs_clk pb y W hW hi
          rw [yr] at hrun
          clear yr
          have hd1 := fun W hW => due_fr pb y (at_ + y.wt - 1) W hW hi
          rw [D1] at hd1
          have hd2 := fun W hW => due_fr pb y (at_ + y.wt) W hW hi
          rw [D2] at hd2
          have hlt := fun W hW => late_clk pb y (at_ + y.wt) W hW hi
          rw [hL] at hlt
          dsimp only at hlt
          clear D1 D2 hL
          have Hrun : Hid _ := hrun
          have Hd1 : Hid _ := hd1
          have Hd2 : Hid _ := hd2
          have Hlt : Hid _ := hlt
          clear hrun hd1 hd2 hlt
          go_wp2_with fail
          refine (Hrun.out _ mk).mono ?_
          rintro e w3 ⟨rfl, rfl⟩
          go_wp2_with fail
          refine (wait_clk _ _ _ mk hi).mono ?_
          rintro e w3 ⟨rfl, rfl⟩
          go_wp2_with fail
          refine (Hd1.out _ mk).mono ?_
          rintro e w4 ⟨rfl, f4⟩
          have mk4 : Clk w4 pb y := Blk.fr mk f4 (by simp)
          have bR4 := Blk.fr bR f4 (by simp)
          have fk4 : Fr [] w w4 := fk.trans f4 (by simp)
          clear mk bR fk f4 q0 q1 q2 q3
          go_wp2_with fail
          refine (wait_clk _ _ _ mk4 hi).mono ?_
          rintro e w5 ⟨rfl, rfl⟩
          go_wp2_with fail
          refine (Hd2.out _ mk4).mono ?_
          rintro e w5 ⟨rfl, f5⟩
          have mk5 : Clk w5 pb y := Blk.fr mk4 f5 (by simp)
          have bR5 := Blk.fr bR4 f5 (by simp)
          have fk5 : Fr [] w w5 := fk4.trans f5 (by simp)
          clear mk4 bR4 fk4 f5
          go_wp2_with fail
          refine (wait_clk _ _ _ mk5 hi).mono ?_
          rintro e w6 ⟨rfl, rfl⟩
          go_wp2_with fail
          refine (Hlt.out _ mk5).mono ?_
          rintro e w7 ⟨rfl, f7, mk7⟩
          have bR7 := Blk.fr bR5 f7 (by simp <;> omega)
          have fk7 : Fr [] w w7 := fk5.trans f7 (by have := fk5.size; simp <;> omega)
          obtain ⟨q0, q1, q2, q3⟩ := r4 bR7
          go_wp2_with fail
          go_roundw
          case rel =>
            have hP := HP.out
            refine ⟨k + 1, at_ + y.wt, P + m, z, by push_cast; omega, rfl, by go_num, ?_, by omega, by omega, by push_cast; omega, iz, Hz, mk7, bR7, fk7⟩
            rw [hP]; push_cast; rw [Int.mul_add]; simp
          case measure => simp [intOf]; omega
        · have hke : (k : Int) = t + 1 := by omega
          obtain ⟨_, _, _, hy2⟩ := Hy.out
          have yr := hy2 hke
          have hrun := fun W hW => runs_clk pb y W hW hi
          rw [yr] at hrun
          have Hrun : Hid _ := hrun
          clear hrun yr hy2 Hy
          have hP : P = m * (t + 1) := by rw [HP.out, hke]
          have hPb : m * (t + 1) ≤ 65536 * 101 := by
            have := Int.mul_le_mul h4 (show t + 1 ≤ 101 by omega) (by omega) (by omega)
            exact this
          have hP0 : 0 ≤ m * (t + 1) := Int.mul_nonneg (by omega) (by omega)
          rw [hP] at a1
          clear hP HP
          have wt1 : IntKind.i64.wrap (t + 1) = t + 1 := IntWalk.i64_in _ (by omega)
          have wm : IntKind.i64.wrap (m * (t + 1)) = m * (t + 1) := IntWalk.i64_in _ (by omega)
          go_wp2_with fail
          refine (Hrun.out _ mk).mono ?_
          rintro e w3 ⟨rfl, rfl⟩
          have hle : decide (at_ - now ≤ m * (t + 1)) = true := by simp; omega
          go_wp2_with fail
          refine (known_any _).mono ?_
          rintro e w7 ⟨rfl, f7⟩
          go_wp2_with fail
          go_ret
          exact ⟨rfl, fk.trans f7 (by simp)⟩
end Go.Proofs.Ytkpgkoeclhlidaa
