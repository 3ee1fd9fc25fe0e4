import Derived.Test.YtkpgkoeclhlidaaO
import Derived.Test.YtkpgkoeclhlidaaKit2
import Derived.Test.YtkpgkoeclhlidaaY
namespace Go.Proofs.Ytkpgkoeclhlidaa
open Go.RowKit Go.Deep

theorem sample_res {c : Ck} {n : Int} (h0 : 0 ≤ n) (h1 : n ≤ 2000) : (sampleV c n).2 = 0 := by
  unfold sampleV
  rw [if_neg (by omega)]

set_option maxRecDepth 100000 in
set_option maxHeartbeats 4000000 in
theorem learns_yes (f l m t : Int) (n : Int) (la : Option Addr) (ln lc : Nat) (zs : Nat → Int) (w : World) (hl : Reads w w.heap.size la ln (fun i => .int .i64 (zs i))) (g1 : ln ≤ 10) (n0 : 0 ≤ n) (n1 : n ≤ 2000)
    (h1 : 1 ≤ l) (h2 : l ≤ f) (h3 : f ≤ m) (h4 : m ≤ 65536) (h5 : 1 ≤ t) (h6 : t ≤ 100) :
    Calls Try.prog 4 #[agR f l m t, .int .i64 n, .slice la ln lc] w fun e w' => e = .returned (.bool true) ∧ Fr [] w w' := by
  go_enter Try.func4, Try.ntmps4
  go_wp2_with fail
  have bR : Blk (w.alloc (.cells #[.int .i64 f, .int .i64 l, .int .i64 m, .int .i64 t] 23)) w.heap.size 23 #[.int .i64 f, .int .i64 l, .int .i64 m, .int .i64 t] := Blk.new _ _ _
  have f0 : Fr [] w (w.alloc (.cells #[.int .i64 f, .int .i64 l, .int .i64 m, .int .i64 t] 23)) := (Fr.refl _ _).alloc _
  have z0 : w.heap.size < (w.alloc (.cells #[.int .i64 f, .int .i64 l, .int .i64 m, .int .i64 t] 23)).heap.size := by simp
  generalize w.alloc (.cells #[.int .i64 f, .int .i64 l, .int .i64 m, .int .i64 t] 23) = w0 at *
  refine (new_clk f l m t _ h1 h2 h3 h4 h5 h6).mono ?_
  rintro e w1 ⟨pb, rfl, hg, f1, m1, z1⟩
  have bR1 := Blk.fr bR f1 (by simp)
  have F1 : Fr [] w w1 := f0.trans f1 (by simp)
  have hgr : w.heap.size < pb := by omega
  clear bR f0 f1
  have hi0 : Inv (newV f l m t) := new_inv h1 h2 h3 h4 h5 h6
  have hs0 : (newV f l m t).m = m ∧ (newV f l m t).l = l := ⟨rfl, rfl⟩
  have hq0 := small_new f l m t
  generalize newV f l m t = x0 at *
  go_wp2_with fail
  go_loopw [9] (fun v wr => ∃ (k : Nat) (x : Ck), k ≤ ln ∧ v = .int .i64 k ∧ Inv x ∧ (x.m = m ∧ x.l = l) ∧ Small x ∧ Clk wr pb x ∧ Blk wr w.heap.size 23 #[.int .i64 f, .int .i64 l, .int .i64 m, .int .i64 t] ∧ Fr [] w wr) (fun v _ => ln - (intOf v).toNat)
  case atStart => exact ⟨0, x0, by omega, rfl, hi0, hs0, hq0, m1, bR1, F1⟩
  case round =>
    obtain ⟨k, x, hk, rfl, hi, hs, hq, mk, bR, fk⟩ := hrel
    clear hi0 hs0 hq0 m1 bR1 F1
    have Hs : Hid _ := hs
    clear hs
    by_cases hlt : k < ln
    · obtain ⟨ad, rfl, hb, hc⟩ := (hl.fr fk (Nat.le_refl _) (by simp)) k hlt
      dsimp only at hc
      have z1 : 0 ≤ max 0 (min 2000 (zs k)) := by omega
      have z2 : max 0 (min 2000 (zs k)) ≤ 2000 := by omega
      go_wp2_with fail
      refine (sample_clk _ _ _ _ mk hi).mono ?_
      rintro e w2 ⟨rfl, f2, m2⟩
      have bR2 := Blk.fr bR f2 (by simp <;> omega)
      have F2 : Fr [] w w2 := fk.trans f2 (by have := fk.size; simp <;> omega)
      have i2 := sample_inv hi (max 0 (min 2000 (zs k)))
      have q2 := small_sample hq z1 z2
      have s2 := sample_same x (max 0 (min 2000 (zs k)))
      have hs := Hs.out
      have hs2 : (sampleV x (max 0 (min 2000 (zs k)))).1.m = m ∧ (sampleV x (max 0 (min 2000 (zs k)))).1.l = l := ⟨s2.2.2.1.trans hs.1, s2.2.1.trans hs.2⟩
      clear s2 hs
      have Hs2 : Hid _ := hs2
      clear hs2
      generalize sampleV x (max 0 (min 2000 (zs k))) = X at *
      go_wp2_with fail
      go_roundw
      case rel => exact ⟨k + 1, X.1, by omega, by go_num, i2, Hs2.out, q2, m2, bR2, F2⟩
      case measure => simp [intOf]; omega
    · go_wp2_with fail
      clear hlt hk
      go_loopw [10] (fun v wr => ∃ (k : Nat) (y : Ck), k ≤ 300 ∧ v = .int .i64 k ∧ Inv y ∧ Hid (y.m = m ∧ y.l = l) ∧ Near y n k ∧ Clk wr pb y ∧ Blk wr w.heap.size 23 #[.int .i64 f, .int .i64 l, .int .i64 m, .int .i64 t] ∧ Fr [] w wr) (fun v _ => 300 - (intOf v).toNat)
      case atStart => exact ⟨0, x, by omega, rfl, hi, Hs, .inl ⟨rfl, hq⟩, mk, bR, fk⟩
      case round =>
        clear hi Hs hq mk bR fk
        obtain ⟨k, y, hk, rfl, hi, Hs, hq, mk, bR, fk⟩ := hrel
        by_cases hlt : k < 300
        · have hr := sample_res (c := y) n0 n1
          have i2 := sample_inv hi n
          have q2 := near_step n0 n1 k hq
          have s2 := sample_same y n
          have hs := Hs.out
          have hs2 : (sampleV y n).1.m = m ∧ (sampleV y n).1.l = l := ⟨s2.2.2.1.trans hs.1, s2.2.1.trans hs.2⟩
          clear s2 hs
          have Hs2 : Hid _ := hs2
          clear hs2
          have hsc := fun W hW => sample_clk pb y n W hW hi
          revert hsc
          generalize sampleV y n = X at *
          obtain ⟨X1, X2⟩ := X
          dsimp only at hr
          subst hr
          intro hsc
          dsimp only at hsc i2 q2 Hs2
          have Hsc : Hid _ := hsc
          clear hsc
          go_wp2_with fail
          refine (Hsc.out _ mk).mono ?_
          rintro e w2 ⟨rfl, f2, m2⟩
          have bR2 := Blk.fr bR f2 (by simp <;> omega)
          have F2 : Fr [] w w2 := fk.trans f2 (by have := fk.size; simp <;> omega)
          go_wp2_with fail
          go_roundw
          case rel => exact ⟨k + 1, X1, by omega, by go_num, i2, Hs2, q2, m2, bR2, F2⟩
          case measure => simp [intOf]; omega
        · obtain rfl : k = 300 := by omega
          have hn := near_300 hq
          obtain ⟨e1, e2⟩ := Hs.out
          rw [e1, e2] at hn
          clear hq Hs e1 e2 hlt hk
          obtain ⟨q0, q1, q2, q3⟩ := r4 bR
          have wa : IntKind.i64.wrap (n + 1) = n + 1 := IntWalk.i64_in _ (by omega)
          have wb : IntKind.i64.wrap (n + 3) = n + 3 := IntWalk.i64_in _ (by omega)
          go_wp2_with fail
          go_quiet (fail)
          go_wp2_with fail
          refine (wait_clk _ _ _ (Blk.drewN mk _) hi).mono ?_
          rintro e w3 ⟨rfl, rfl⟩
          go_wp2_with fail
          refine (wait_clk _ _ _ (Blk.drewN mk _) hi).mono ?_
          rintro e w3 ⟨rfl, rfl⟩
          go_wp2_with fail
          refine (known_any _).mono ?_
          rintro e w7 ⟨rfl, f7⟩
          go_wp2_with fail
          go_ret
          exact ⟨rfl, (fk.drewN _).trans f7 (by simp)⟩
end Go.Proofs.Ytkpgkoeclhlidaa
