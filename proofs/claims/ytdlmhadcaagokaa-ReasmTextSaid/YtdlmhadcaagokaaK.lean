import Derived.Test.YtdlmhadcaagokaaJ
import Derived.Test.YtdlmhadcaagokaaA
import Derived.Test.YtdlmhadcaagokaaKit4
import Derived.Deep.DeepCutAuto
namespace Go.Proofs.Ytdlmhadcaagokaa
open Go.RowKit Go.Deep

/-- What End answers. -/
def EndPost (S : Nat → Prop) (w : World) (g : Nat) (kv : Value) (h' : Hp) (err : Int) (e : Ending) (w' : World) : Prop :=
  ∃ S', e = .returned (.int .i64 err) ∧ Ext w S S' ∧ HP S' w' g kv h' ∧ Fr [g] w w'
theorem end_same {S : Nat → Prop} {w w' : World} {g : Nat} {kv : Value} {h : Hp} (m : HP S w g kv h) (f : Fr [] w w') (err : Int) : EndPost S w g kv h err (.returned (.int .i64 err)) w' := by
  obtain ⟨ev, L, m⟩ := m
  exact ⟨S, rfl, Ext.refl _ _, ⟨ev, L, m.fr f (by simp) (by simp) (by simp)⟩, f.mono (by simp)⟩
theorem end_set {S : Nat → Prop} {w W : World} {g b : Nat} {kv ev : Value} {h : Hp} {L : List (Pc × Value)} {a : Int} (m : HPx S w g kv ev h L) (f : Fr [] w W) (hb : W.cell? ⟨b, 0, none⟩ = some (.int .i64 a)) (hn : w.heap.size ≤ b) (hg : b ≠ g) (hk : kv.ownBlock ≠ some b) :
    EndPost S w g kv { h with fin := some a } 0 (.returned (.int .i64 0)) (W.setCell ⟨g, 3, none⟩ (ptr b)) := by
  have m1 := m.fr f (by simp) (by simp) (by simp)
  have f2 := (Fr.refl [g] W).setCell (p := ⟨g, 3, none⟩) (.inl (by simp)) (ptr b)
  have hO : ∀ x ∈ [g], ¬ S x := by intro x hx; simp at hx; subst hx; exact m.offg
  have hlt := World.block_lt_of_cell? W _ hb
  dsimp only at hlt
  refine ⟨fun x => S x ∨ x = b, rfl, ⟨fun x h => .inl h, fun x h => h.imp id (fun e => by omega)⟩, ⟨ptr b, L, ?_, ?_, m.kept, ?_, ?_, ?_, ?_⟩, (f.mono (by simp)).trans f2 (fun x hx => .inl hx)⟩
  · simpa using m1.blk.set_ 3 (ptr b)
  · exact (m1.kp.fr f2 hO (fun b hb' => by simp; rintro rfl; exact own_ne m1.kp.own m1.blk (by decide) hb')).mono fun x h => .inl h
  · refine .inr ⟨a, b, rfl, rfl, .inr rfl, ?_⟩
    rw [f2.cell (p := ⟨b, 0, none⟩) hlt (by simpa using hg)]
    exact hb
  · intro x hx
    rcases hx with h1 | rfl
    · exact Nat.lt_of_lt_of_le (m1.pub x h1) f2.size
    · exact Nat.lt_of_lt_of_le hlt f2.size
  · rintro (h1 | h1)
    · exact m.offg h1
    · exact hg h1.symm
  · rintro x hx (h1 | h1)
    · exact m.offk x hx h1
    · exact hk (h1 ▸ hx)

set_option maxHeartbeats 1000000 in
theorem end_arg {S : Nat → Prop} {w : World} {g : Nat} {kv : Value} {h : Hp} (m : HP S w g kv h) (a : Int) (ha : a < 0 ∨ 4611686018427387904 < a) :
    Calls Try.prog 18 #[ptr g, .int .i64 a] w (EndPost S w g kv h 2) := by
  have M := Lib.hid m
  obtain ⟨ev, L, m⟩ := m
  have c4 := m.cells.2.2.2.2
  have hg := m.blk.lt
  clear m
  have q4 := cell_al c4 (.cells #[.int .i64 a] 2)
  by_cases h0 : a < 0
  · go_enter Try.func18, Try.ntmps18
    go_wp2_with (go_at_call 26; refine (none_hp q4).mono ?_; rintro e w' ⟨rfl, rfl⟩)
    go_ret
    exact end_same M.out ((Fr.refl _ _).alloc _) 2
  · have h1 : 4611686018427387904 < a := by omega
    clear ha
    go_enter Try.func18, Try.ntmps18
    go_wp2_with (go_at_call 26; refine (none_hp q4).mono ?_; rintro e w' ⟨rfl, rfl⟩)
    go_ret
    exact end_same M.out ((Fr.refl _ _).alloc _) 2

set_option maxRecDepth 100000 in
set_option maxHeartbeats 2000000 in
theorem end_go {S : Nat → Prop} {w : World} {g : Nat} {kv : Value} {h : Hp} (m : HP S w g kv h) (hi : Inv h) (a : Int) (ha : 0 ≤ a) (ha2 : a ≤ 4611686018427387904) :
    Calls Try.prog 18 #[ptr g, .int .i64 a] w (EndPost S w g kv (if (other h.fin a || decide (a < h.next) || h.kept.any (over a)) = true then h else { h with fin := some a }) (if (other h.fin a || decide (a < h.next) || h.kept.any (over a)) = true then 250 else 0)) := by
  have M := Lib.hid m
  obtain ⟨ev, L, m⟩ := m
  obtain ⟨c0, c1, c2, c3, c4⟩ := m.cells
  have hg := m.blk.lt
  have M0 := Lib.hid m
  have hL : L.length ≤ 64 := by have h1 := hi.len; have h2 := hi.m1; rw [m.len] at h1; omega
  have hpc : ∀ x ∈ L, 0 ≤ x.1.at_ ∧ x.1.at_ ≤ 4611686018427387904 ∧ 1 ≤ x.1.d.length ∧ x.1.d.length ≤ 64 := fun x hx => hi.pc x.1 (by rw [m.kept]; exact List.mem_map.2 ⟨x, hx, rfl⟩)
  have q4 := cell_al c4 (.cells #[.int .i64 a] 2)
  have bn := Blk.new w 2 #[.int .i64 a]
  have bn0 : (w.alloc (.cells #[.int .i64 a] 2)).cell? ⟨w.heap.size, 0, none⟩ = some (.int .i64 a) := bn.cell 0
  have fa : Fr [] w (w.alloc (.cells #[.int .i64 a] 2)) := (Fr.refl _ _).alloc _
  have hco := fun p : Grew (w.alloc (.cells #[.int .i64 a] 2)) => grew_call (contains_end S p.W w.heap.size a (Grew.cell bn0 p) kv L ((m.kp.fr fa (by simp) (by simp)).fr p.fr (by simp) (by simp)) hL hpc)
  rw [← m.kept] at hco
  have HCO := Lib.hid hco
  have x0 := Grew.cell bn0
  have x1 := Grew.cell (cell_al c1 (.cells #[.int .i64 a] 2))
  have x2 := Grew.cell (cell_al c2 (.cells #[.int .i64 a] 2))
  have x3 := Grew.cell (cell_al c3 (.cells #[.int .i64 a] 2))
  have BN := Lib.hid bn
  have FA := Lib.hid fa
  have hfin := m.fin
  clear hco bn fa m c0 c1 c2 c3 c4 hi hpc
  generalize h.kept.any (over a) = q at *
  go_enter Try.func18, Try.ntmps18
  go_upto_region 5 with (go_at_call 26; refine (none_hp q4).mono ?_; rintro e w' ⟨rfl, rfl⟩)
  go_cut [15] (fun s15 wx => s15 = .bool (other h.fin a || decide (a < h.next) || q) ∧ Fr [] (w.alloc (.cells #[.int .i64 a] 2)) wx)
  case first =>
    rcases hfin with ⟨e1, rfl⟩ | ⟨fa, fb, e1, rfl, e3, e4⟩
    · have e5 : other h.fin a = false := by unfold other; rw [e1]
      have E5 := Lib.hid e5
      clear e1 e5
      by_cases hlt : a < h.next
      · have hd : decide (a < h.next) = true := by simpa using hlt
        refine wp_region_grew (by kernel_rfl) (by kernel_rfl) ?_
        repeat (go_big_quiet_step ((go_at_call 34; exact HCO.out _)))
        refine wpQuiet_nil ?_
        intro W1 f1
        go_wp2_with fail
        go_meet
        exact ⟨by rw [E5.out]; simp [*], f1⟩
      · have hd : decide (a < h.next) = false := by simpa using hlt
        refine wp_region_grew (by kernel_rfl) (by kernel_rfl) ?_
        repeat (go_big_quiet_step ((go_at_call 34; exact HCO.out _)))
        refine wpQuiet_nil ?_
        intro W1 f1
        go_wp2_with fail
        go_meet
        exact ⟨by rw [E5.out]; simp [*], f1⟩
    · have e5 : other h.fin a = !(fa == a) := by unfold other; rw [e1]
      have E5 := Lib.hid e5
      have x4 := Grew.cell (cell_al e4 (.cells #[.int .i64 a] 2))
      clear e1 e5 e4
      cases hfa : (fa == a)
      · have hfb : (fa != a) = true := by simp [bne, hfa]
        refine wp_region_grew (by kernel_rfl) (by kernel_rfl) ?_
        repeat (go_big_quiet_step ((go_at_call 34; exact HCO.out _)))
        refine wpQuiet_nil ?_
        intro W1 f1
        go_wp2_with fail
        go_meet
        exact ⟨by rw [E5.out]; simp [*], f1⟩
      · have hfb : (fa != a) = false := by simp [bne, hfa]
        by_cases hlt : a < h.next
        · have hd : decide (a < h.next) = true := by simpa using hlt
          refine wp_region_grew (by kernel_rfl) (by kernel_rfl) ?_
          repeat (go_big_quiet_step ((go_at_call 34; exact HCO.out _)))
          refine wpQuiet_nil ?_
          intro W1 f1
          go_wp2_with fail
          go_meet
          exact ⟨by rw [E5.out]; simp [*], f1⟩
        · have hd : decide (a < h.next) = false := by simpa using hlt
          refine wp_region_grew (by kernel_rfl) (by kernel_rfl) ?_
          repeat (go_big_quiet_step ((go_at_call 34; exact HCO.out _)))
          refine wpQuiet_nil ?_
          intro W1 f1
          go_wp2_with fail
          go_meet
          exact ⟨by rw [E5.out]; simp [*], f1⟩
  case rest =>
    obtain ⟨rfl, f1⟩ := hcut
    generalize wc = W1 at *
    have b1 := BN.out.fr f1 (by simp)
    have m1 := M0.out.fr (FA.out.trans f1 (by simp)) (by simp) (by simp) (by simp)
    have y0 := m1.cells.2.2.2.1
    have y1 := m1.blk.frozen 3
    have y2 := m1.blk.lt
    have B1 := Lib.hid b1
    have F1 := Lib.hid f1
    clear b1 m1 f1 x0 x1 x2 x3 hfin
    generalize (other h.fin a || decide (a < h.next) || q) = z at *
    cases z
    · go_wp2_with fail
      go_ret
      exact end_set M0.out (FA.out.trans F1.out (by simp)) (B1.out.cell 0) (Nat.le_refl _) (by have := M0.out.blk.lt; omega) (fun hk => by have := own_lt M0.out.kp.own hk; omega)
    · go_wp2_with fail
      go_ret
      exact end_same M.out (FA.out.trans F1.out (by simp)) 250
theorem end_any {S : Nat → Prop} {w : World} {g : Nat} {kv : Value} {h : Hp} (m : HP S w g kv h) (hi : Inv h) (a : Int) : Calls Try.prog 18 #[ptr g, .int .i64 a] w (EndPost S w g kv (endV h a).1 (endV h a).2) := by
  unfold endV
  by_cases h0 : a < 0 ∨ 4611686018427387904 < a
  · rw [if_pos h0]
    exact end_arg m a h0
  · rw [if_neg h0]
    have := end_go m hi a (by omega) (by omega)
    split
    · rename_i h1
      rwa [if_pos h1, if_pos h1] at this
    · rename_i h1
      rwa [if_neg h1, if_neg h1] at this
end Go.Proofs.Ytdlmhadcaagokaa
