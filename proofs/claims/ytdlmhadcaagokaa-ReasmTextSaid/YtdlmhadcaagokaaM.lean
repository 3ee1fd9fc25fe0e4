import Derived.Test.YtdlmhadcaagokaaL
import Derived.Deep.DeepCutAuto
namespace Go.Proofs.Ytdlmhadcaagokaa
open Go.RowKit Go.Deep

set_option maxRecDepth 100000 in
set_option maxHeartbeats 2000000 in
theorem same_hp {S : Nat → Prop} {w : World} {g g' : Nat} {kv kv' : Value} {h : Hp} (m : HP S w g kv h) (m' : HP S w g' kv' h) (hi : Inv h) : Calls Try.prog 22 #[ptr g, ptr g'] w fun e w' => e = .returned (.bool true) ∧ Fr [] w w' := by
  obtain ⟨ev, L, m⟩ := m
  obtain ⟨ev', L', m'⟩ := m'
  obtain ⟨c0, c1, c2, c3, c4⟩ := m.cells
  obtain ⟨d0, d1, d2, d3, d4⟩ := m'.cells
  have hL : L.length ≤ 64 := by have h1 := hi.len; have h2 := hi.m1; rw [m.len] at h1; omega
  have heq : ∀ W, Fr [] w W → Calls Try.prog 39 #[kv, kv', .func (.func 37) #[] #[]] W fun e w' => e = .returned (.bool true) ∧ Fr [] W w' := fun W f =>
    equal_eq S W kv kv' L L' (m.kp.fr f (by simp) (by simp)) (m'.kp.fr f (by simp) (by simp)) (by rw [← m.kept, m'.kept]) hL
  have HEQ := Lib.hid heq
  have hfin : (ev = .pointer none ∧ ev' = .pointer none) ∨ ∃ a b b', ev = ptr b ∧ ev' = ptr b' ∧ w.cell? ⟨b, 0, none⟩ = some (.int .i64 a) ∧ w.cell? ⟨b', 0, none⟩ = some (.int .i64 a) := by
    rcases m.fin with ⟨h1, h2⟩ | ⟨a, b, h1, h2, h3, h4⟩
    · rcases m'.fin with ⟨h5, h6⟩ | ⟨a', b', h5, h6, h7, h8⟩
      · exact .inl ⟨h2, h6⟩
      · rw [h1] at h5; cases h5
    · rcases m'.fin with ⟨h5, h6⟩ | ⟨a', b', h5, h6, h7, h8⟩
      · rw [h1] at h5; cases h5
      · rw [h1] at h5
        injection h5 with h5
        subst h5
        exact .inr ⟨a, b, b', h2, h6, h4, h8⟩
  clear m m' hi hL heq
  go_enter Try.func22, Try.ntmps22
  go_upto_region 3 with (first | (go_at_call 26; refine (none_hp ?_).mono ?_; (first | exact c4 | exact d4); rintro e w' ⟨rfl, rfl⟩))
  go_cut [5] (fun s5 wx => s5 = .bool true ∧ Fr [] w wx)
  case first =>
    have x0 := Grew.cell c3
    have x1 := Grew.cell d3
    rcases hfin with ⟨rfl, rfl⟩ | ⟨a, b, b', rfl, rfl, e1, e2⟩
    · refine wp_region_grew (by kernel_rfl) (by kernel_rfl) ?_
      repeat (go_big_quiet_step (fail))
      refine wpQuiet_nil ?_
      intro W1 f1
      go_wp2_with fail
      go_meet
      exact ⟨rfl, f1⟩
    · have x2 := Grew.cell e1
      have x3 := Grew.cell e2
      refine wp_region_grew (by kernel_rfl) (by kernel_rfl) ?_
      repeat (go_big_quiet_step (fail))
      refine wpQuiet_nil ?_
      intro W1 f1
      go_wp2_with fail
      go_meet
      exact ⟨rfl, f1⟩
  case rest =>
    obtain ⟨rfl, f1⟩ := hcut
    generalize wc = W1 at *
    have x0 := Grew.cell (fr_cell f1 c0)
    have x1 := Grew.cell (fr_cell f1 c1)
    have x2 := Grew.cell (fr_cell f1 c2)
    have y0 := Grew.cell (fr_cell f1 d0)
    have y1 := Grew.cell (fr_cell f1 d1)
    have y2 := Grew.cell (fr_cell f1 d2)
    have hq : ∀ p : Grew W1, Calls Try.prog 39 #[kv, kv', .func (.func 37) #[] #[]] p.W fun e w'' => e = .returned (.bool true) ∧ ∃ q : Grew W1, w'' = q.W := fun p => grew_call (HEQ.out _ (f1.trans p.fr (by simp)))
    have HQ := Lib.hid hq
    have F1 := Lib.hid f1
    clear hq f1 c0 c1 c2 c3 c4 d0 d1 d2 d3 d4 hfin
    go_wp2_with fail
    refine wp_region_grew (by kernel_rfl) (by kernel_rfl) ?_
    repeat (go_big_quiet_step ((go_at_call 39; exact HQ.out _)))
    refine wpQuiet_nil ?_
    intro W2 f2
    go_wp2_with fail
    go_ret
    exact ⟨rfl, F1.out.trans f2 (by simp)⟩

/-! ### Heaps that are not there -/
theorem same_nil_z {w : World} {g : Nat} (m : Hz w g) : Calls Try.prog 22 #[.pointer none, ptr g] w fun e w' => e = .returned (.bool true) ∧ w = w' := by
  go_enter Try.func22, Try.ntmps22
  go_wp2_with fail
  refine (none_nil _).mono ?_
  rintro e w' ⟨rfl, rfl⟩
  go_wp2_with fail
  refine (none_nil _).mono ?_
  rintro e w' ⟨rfl, rfl⟩
  go_wp2_with fail
  refine (none_z _ _ m).mono ?_
  rintro e w' ⟨rfl, rfl⟩
  go_wp2_with fail
  go_ret
  exact ⟨rfl, rfl⟩
theorem same_nil_hp {w : World} {g : Nat} (c4 : w.cell? ⟨g, 4, none⟩ = some (.bool true)) : Calls Try.prog 22 #[.pointer none, ptr g] w fun e w' => e = .returned (.bool false) ∧ w = w' := by
  go_enter Try.func22, Try.ntmps22
  go_wp2_with fail
  refine (none_nil _).mono ?_
  rintro e w' ⟨rfl, rfl⟩
  go_wp2_with fail
  refine (none_nil _).mono ?_
  rintro e w' ⟨rfl, rfl⟩
  go_wp2_with fail
  refine (none_hp c4).mono ?_
  rintro e w' ⟨rfl, rfl⟩
  go_wp2_with fail
  go_ret
  exact ⟨rfl, rfl⟩
theorem same_hp_z {w : World} {g g' : Nat} (c4 : w.cell? ⟨g, 4, none⟩ = some (.bool true)) (m : Hz w g') : Calls Try.prog 22 #[ptr g, ptr g'] w fun e w' => e = .returned (.bool false) ∧ w = w' := by
  go_enter Try.func22, Try.ntmps22
  go_wp2_with fail
  refine (none_hp c4).mono ?_
  rintro e w' ⟨rfl, rfl⟩
  go_wp2_with fail
  refine (none_z _ _ m).mono ?_
  rintro e w' ⟨rfl, rfl⟩
  go_wp2_with fail
  refine (none_hp c4).mono ?_
  rintro e w' ⟨rfl, rfl⟩
  go_wp2_with fail
  go_ret
  exact ⟨rfl, rfl⟩
theorem end_z {w : World} {g : Nat} (m : Hz w g) (a : Int) : Calls Try.prog 18 #[ptr g, .int .i64 a] w fun e w' => e = .returned (.int .i64 1) ∧ Fr [] w w' := by
  have hz := Blk.alloc m (.cells #[.int .i64 a] 2)
  have HZ := Lib.hid hz
  clear hz
  go_enter Try.func18, Try.ntmps18
  go_wp2_with (go_at_call 26; refine (none_z _ _ HZ.out).mono ?_; rintro e w' ⟨rfl, rfl⟩)
  go_ret
  exact ⟨rfl, (Fr.refl _ _).alloc _⟩
theorem done_nil (w : World) : Calls Try.prog 19 #[.pointer none] w fun e w' => e = .returned (.bool false) ∧ Fr [] w w' := by
  go_enter Try.func19, Try.ntmps19
  go_wp2_with fail
  go_quiet ((go_at_call 26; exact quiet_left (none_nil _)))
  go_wp2
  go_ret
  exact ⟨rfl, (Fr.refl _ _).drewN _⟩
theorem done_z {w : World} {g : Nat} (m : Hz w g) : Calls Try.prog 19 #[ptr g] w fun e w' => e = .returned (.bool false) ∧ Fr [] w w' := by
  have hq := fun n => none_z g (w.drewN n) (Blk.drewN m n)
  have HQ := Lib.hid hq
  clear hq
  go_enter Try.func19, Try.ntmps19
  go_wp2_with fail
  go_quiet ((go_at_call 26; exact quiet_left (HQ.out _)))
  go_wp2
  go_ret
  exact ⟨rfl, (Fr.refl _ _).drewN _⟩
theorem next_nil (w : World) : Calls Try.prog 17 #[.pointer none] w fun e w' => e = .returned (.int .i64 0) ∧ w = w' := by
  go_enter Try.func17, Try.ntmps17
  go_wp2_with (go_at_call 26; refine (none_nil _).mono ?_; rintro e w' ⟨rfl, rfl⟩)
  go_ret
  exact ⟨rfl, rfl⟩
theorem held_z {w : World} {g : Nat} (m : Hz w g) : Calls Try.prog 20 #[ptr g] w fun e w' => e = .returned (.int .i64 0) ∧ w = w' := by
  go_enter Try.func20, Try.ntmps20
  go_wp2_with (go_at_call 26; refine (none_z _ _ m).mono ?_; rintro e w' ⟨rfl, rfl⟩)
  go_ret
  exact ⟨rfl, rfl⟩
theorem pieces_nil (w : World) : Calls Try.prog 14 #[.pointer none] w fun e w' => e = .returned (.slice none 0 0) ∧ w = w' := by
  go_enter Try.func14, Try.ntmps14
  go_wp2_with (go_at_call 26; refine (none_nil _).mono ?_; rintro e w' ⟨rfl, rfl⟩)
  go_ret
  exact ⟨rfl, rfl⟩
theorem copy_z {w : World} {g : Nat} (m : Hz w g) : Calls Try.prog 21 #[ptr g] w fun e w' => e = .returned (.pointer none) ∧ w = w' := by
  go_enter Try.func21, Try.ntmps21
  go_wp2_with (go_at_call 26; refine (none_z _ _ m).mono ?_; rintro e w' ⟨rfl, rfl⟩)
  go_ret
  exact ⟨rfl, rfl⟩
end Go.Proofs.Ytdlmhadcaagokaa
