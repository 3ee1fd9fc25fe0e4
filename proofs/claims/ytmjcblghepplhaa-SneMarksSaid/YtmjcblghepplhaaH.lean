import Derived.Test.YtmjcblghepplhaaE
import Derived.Test.YtmjcblghepplhaaKit2
namespace Go.Proofs.Ytmjcblghepplhaa
open Go.RowKit

theorem same_fr (g g' : Nat) (n n' : Int) (w : World) (m : Mk w g n true) (m' : Mk w g' n' true) :
    Calls Try.prog 15 #[ptr g, ptr g'] w fun e w' => e = .returned (.bool (n == n')) ∧ Fr [] w w' :=
  (same_mk g g' n n' w m m').mono fun _ _ ⟨h, k, hk⟩ => ⟨h, by rw [hk]; exact (Fr.refl _ _).drewN k⟩

theorem took_max' (seq n : Int) (h0 : 0 ≤ seq) (h1 : seq < 4294967296) (h2 : 0 ≤ n) (h3 : n ≤ 4611686018427387904) : tookV seq n = max n (nearV seq n).1 := by
  have := near_bd seq n h0 h1 h2 h3
  unfold tookV
  split <;> omega

set_option maxRecDepth 100000 in
set_option maxHeartbeats 1000000 in
theorem sneMarks_yes (isn : Int) (la ta : Option Addr) (ln lc tn tc : Nat) (zs : Nat → Int) (bs : Nat → Bool) (w : World) (h0 : 0 ≤ isn) (h1 : isn < 4294967296)
    (hl : Reads w w.heap.size la ln (fun i => .int .u32 (zs i))) (hz : ∀ i, i < ln → 0 ≤ zs i ∧ zs i < 4294967296) (ht : Reads w w.heap.size ta tn (fun i => .bool (bs i)))
    (g1 : ln ≤ 60) (g2 : ln ≤ tn) (g3 : tn ≤ 100) :
    Calls Try.prog 5 #[.int .u32 isn, .slice la ln lc, .slice ta tn tc] w fun e w' => e = .returned (.bool true) ∧ Fr [] w w' := by
  go_enter Try.func5, Try.ntmps5
  go_wp2_with fail
  refine (new_mk _ _ h0 h1).mono ?_
  rintro e w1 ⟨rfl, f1, m1, z1⟩
  go_wp2_with fail
  go_loopw [8, 9] (fun v8 v9 wr => ∃ (k : Nat) (n : Int), k ≤ ln ∧ 0 ≤ n ∧ n ≤ 4611686018427387904 ∧ v8 = .int .i64 n ∧ v9 = .int .i64 k ∧ Mk wr w.heap.size n true ∧ Fr [] w wr) (fun _ v9 _ => ln - (intOf v9).toNat)
  case atStart => exact ⟨0, isn, by omega, by omega, by omega, rfl, rfl, m1, f1⟩
  case round =>
    obtain ⟨k, n, hk, n0, n1, rfl, rfl, mk, fk⟩ := hrel
    have zr : w.heap.size < wr.heap.size := Blk.lt mk
    by_cases hlt : k < ln
    · obtain ⟨ad, rfl, hb, hc⟩ := (hl.fr fk (Nat.le_refl _) (by simp)) k hlt
      obtain ⟨zk0, zk1⟩ := hz k hlt
      go_wp2_with fail
      refine (ref_yes _ _ _ zk0 zk1 n0 n1).mono ?_
      rintro e w2 ⟨rfl, rfl⟩
      go_wp2_with fail
      refine (copy_mk _ _ _ mk).mono ?_
      rintro e w2 ⟨rfl, f2, mc, z2⟩
      have mk2 : Mk w2 w.heap.size n true := Blk.fr mk f2 (by simp)
      have hc2 : w2.cell? (ad.add k) = some (.int .u32 (zs k)) := by
        obtain ⟨ad', e', _, hc'⟩ := (hl.fr (fk.trans f2 (by simp)) (Nat.le_refl _) (by simp)) k hlt
        injection e' with e'
        rw [e']
        exact hc'
      go_wp2_with fail
      refine (look_mk _ _ _ _ mc zk0 zk1 n0 n1).mono ?_
      rintro e w3 ⟨rfl, f3⟩
      have nb := near_bd (zs k) n zk0 zk1 n0 n1
      have ht3 := ht.fr ((fk.trans f2 (by simp)).trans f3 (by simp)) (Nat.le_refl _) (by simp)
      have mk3 : Mk w3 w.heap.size n true := Blk.fr mk2 f3 (by simp)
      have mc3 : Mk w3 _ n true := Blk.fr mc f3 (by simp)
      have fk3 : Fr [] w w3 := (fk.trans f2 (by simp)).trans f3 (by simp)
      clear hc hc2 mk mk2 mc f2 f3 fk
      go_wp2_with fail
      refine (value_mk _ _ _ mc3).mono ?_
      rintro e w4 ⟨rfl, rfl⟩
      go_wp2_with fail
      refine (same_fr _ _ _ _ _ mc3 mk3).mono ?_
      rintro e w4 ⟨rfl, f4⟩
      rw [show (n == n) = true from by simp]
      have mk4 : Mk w4 w.heap.size n true := Blk.fr mk3 f4 (by simp)
      have mc4 : Mk w4 _ n true := Blk.fr mc3 f4 (by simp)
      have fk4 : Fr [] w w4 := fk3.trans f4 (by simp)
      have hc4 : w4.cell? (ad.add k) = some (.int .u32 (zs k)) := by
        obtain ⟨ad', e', _, hc'⟩ := (hl.fr fk4 (Nat.le_refl _) (by simp)) k hlt
        injection e' with e'
        rw [e']
        exact hc'
      obtain ⟨bd, rfl, hbb, hbc⟩ := ht3.fr f4 (by have := fk3.size; omega) (by simp) k (by omega)
      clear mk3 mc3 f4 fk3 ht3
      dsimp only at hbc
      have tm := took_max' (zs k) n zk0 zk1 n0 n1
      generalize hx : (nearV (zs k) n).1 = x at *
      generalize hy : (nearV (zs k) n).2 = y at *
      have Hx : Hid _ := hx
      have Hy : Hid _ := hy
      have Tm : Hid _ := tm
      clear hx hy tm
      cases hbk : bs k
      · rw [hbk] at hbc
        clear hbk
        go_wp2_with fail
        refine (value_mk _ _ _ mk4).mono ?_
        rintro e w5 ⟨rfl, rfl⟩
        go_wp2_with fail
        go_roundw
        case rel => exact ⟨k + 1, n, by omega, n0, n1, rfl, by go_num, mk4, fk4⟩
        case measure => simp [intOf]; omega
      · rw [hbk] at hbc
        clear hbk
        go_wp2_with fail
        refine (take_mk _ _ _ _ mk4 zk0 zk1 n0 n1).mono ?_
        rintro e w5 ⟨rfl, f5, mk5⟩
        rw [Hx.out, Hy.out]
        rw [Tm.out] at mk5
        have mc5 : Mk w5 wr.heap.size n true := Blk.fr mc4 f5 (by simp; omega)
        have fk5 : Fr [] w w5 := fk4.trans f5 (by simp)
        go_wp2_with fail
        refine (same_fr _ _ _ _ _ mc5 mk5).mono ?_
        rintro e w6 ⟨rfl, f6⟩
        have mc6 : Mk w6 wr.heap.size n true := Blk.fr mc5 f6 (by simp)
        have mk6 : Mk w6 w.heap.size (max n x) true := Blk.fr mk5 f6 (by simp)
        have fk6 : Fr [] w w6 := fk5.trans f6 (by simp)
        clear mk4 mc4 fk4 f5 mk5 mc5 fk5 f6
        by_cases hnx : x ≤ n
        · rw [show max n x = n from by omega] at mk6
          rw [show max n x = n from by omega]
          rw [show (n == n) = true from by simp]
          go_wp2_with fail
          refine (value_mk _ _ _ mc6).mono ?_
          rintro e w7 ⟨rfl, rfl⟩
          go_wp2_with fail
          refine (value_mk _ _ _ mk6).mono ?_
          rintro e w7 ⟨rfl, rfl⟩
          go_wp2_with fail
          go_roundw
          case rel => exact ⟨k + 1, n, by omega, n0, n1, rfl, by go_num, mk6, fk6⟩
          case measure => simp [intOf]; omega
        · rw [show max n x = x from by omega] at mk6
          rw [show max n x = x from by omega]
          rw [show (n == x) = false from by simp; omega]
          go_wp2_with fail
          refine (value_mk _ _ _ mc6).mono ?_
          rintro e w7 ⟨rfl, rfl⟩
          go_wp2_with fail
          refine (value_mk _ _ _ mk6).mono ?_
          rintro e w7 ⟨rfl, rfl⟩
          go_wp2_with fail
          go_roundw
          case rel => exact ⟨k + 1, x, by omega, by omega, by omega, rfl, by go_num, mk6, fk6⟩
          case measure => simp [intOf]; omega
    · go_wp2_with fail
      refine (known_any _).mono ?_
      rintro e w2 ⟨rfl, f2⟩
      go_wp2_with fail
      go_ret
      exact ⟨rfl, fk.trans f2 (by simp)⟩

theorem sneMarks_any (isn : Int) (la ta : Option Addr) (ln lc tn tc : Nat) (zs : Nat → Int) (bs : Nat → Bool) (w : World) (h0 : 0 ≤ isn) (h1 : isn < 4294967296)
    (hl : Reads w w.heap.size la ln (fun i => .int .u32 (zs i))) (hz : ∀ i, i < ln → 0 ≤ zs i ∧ zs i < 4294967296) (ht : Reads w w.heap.size ta tn (fun i => .bool (bs i)))
    (hlm : ln ≤ maxLen) (htm : tn ≤ maxLen) :
    Calls Try.prog 5 #[.int .u32 isn, .slice la ln lc, .slice ta tn tc] w fun e w' => e = .returned (.bool true) ∧ Fr [] w w' := by
  unfold maxLen at hlm htm
  by_cases g1 : ln ≤ 60
  · by_cases g2 : ln ≤ tn
    · by_cases g3 : tn ≤ 100
      · exact sneMarks_yes isn la ta ln lc tn tc zs bs w h0 h1 hl hz ht g1 g2 g3
      · clear hz hl ht
        have g4 : (100 : Int) < (tn : Int) := by omega
        clear g3
        go_enter Try.func5, Try.ntmps5
        go_wp2_with (go_at_call 10; refine (known_any _).mono ?_; rintro e w2 ⟨rfl, f2⟩)
        go_ret
        exact ⟨rfl, f2⟩
    · clear hz hl ht
      go_enter Try.func5, Try.ntmps5
      go_wp2_with (go_at_call 10; refine (known_any _).mono ?_; rintro e w2 ⟨rfl, f2⟩)
      go_ret
      exact ⟨rfl, f2⟩
  · clear hz hl ht
    have g4 : (60 : Int) < (ln : Int) := by omega
    clear g1
    go_enter Try.func5, Try.ntmps5
    go_wp2_with (go_at_call 10; refine (known_any _).mono ?_; rintro e w2 ⟨rfl, f2⟩)
    go_ret
    exact ⟨rfl, f2⟩
end Go.Proofs.Ytmjcblghepplhaa
