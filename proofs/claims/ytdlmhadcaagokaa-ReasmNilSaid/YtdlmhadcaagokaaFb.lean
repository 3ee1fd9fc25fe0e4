import Derived.Test.YtdlmhadcaagokaaEb
import Derived.Deep.DeepCutAuto
namespace Go.Proofs.Ytdlmhadcaagokaa
open Go.RowKit Go.Deep Go.Shelf

set_option maxRecDepth 100000 in
set_option maxHeartbeats 2000000 in
theorem put_nil (w : World) (a : Int) (dv : Value) (d : List Int) (T : Nat → Prop) (hd : Byt T w dv d) (hl : d.length ≤ 1000000) :
    Calls Try.prog 16 #[.pointer none, .int .i64 a, dv] w fun e w' => e = .returned (.tuple #[.slice none 0 0, .int .i64 1]) ∧ Fr [] w w' := by
  obtain ⟨A, c, rfl, hn, hcm⟩ := hd.form
  have hcl : ∀ W, Fr [] w W → Calls Try.prog 27 #[.slice A d.length c] W _ := fun W f => cloneB_any W (hd.fr f (by simp)) hl
  have Hcl := Lib.hid hcl
  have f0 : Fr [] w ((w.alloc (.cells #[.pointer none] 25)).alloc (.cells #[.slice none 0 0] 35)) := ((Fr.refl _ _).alloc _).alloc _
  have bo := Blk.new (w.alloc (.cells #[.pointer none] 25)) 35 #[.slice none 0 0]
  have bh := (Blk.new w 25 #[.pointer none]).alloc (.cells #[.slice none 0 0] 35)
  have BO := Lib.hid bo
  have BH := Lib.hid bh
  clear hcl hd bo bh
  go_enter Try.func16, Try.ntmps16
  go_wp2_with fail
  refine wp_scope_fwd 0 rfl ?_
  go_wp2_with fail
  refine (Hcl.out _ f0).mono ?_
  rintro e w1 ⟨A1, c1, rfl, own1, f1, fb1⟩
  have F1 : Fr [] w w1 := f0.trans f1 (by simp)
  have bh1 := BH.out.fr f1 (by simp)
  have bo1 : Blk w1 (w.heap.size + 1) 35 #[.slice none 0 0] := by simpa using BO.out.fr f1 (by simp)
  have bh0 : w1.cell? ⟨w.heap.size, 0, none⟩ = some (.pointer none) := bh1.cell 0
  have bo0 : w1.cell? ⟨w.heap.size + 1, 0, none⟩ = some (.slice none 0 0) := by simpa using bo1.cell 0
  have bof : w1.frozen? ⟨w.heap.size + 1, 0, none⟩ = false := by simpa using bo1.frozen 0
  have sz1 : w.heap.size + 1 < w1.heap.size := by have := f1.size; simp at this; omega
  have sz2 : w.heap.size < w1.heap.size := by omega
  have HF1 := Lib.hid F1
  have HO1 := Lib.hid own1
  have HB1 := Lib.hid fb1
  have Bh1 := Lib.hid bh1
  have Bo1 := Lib.hid bo1
  clear f0 f1 F1 own1 fb1 bh1 bo1
  go_wp2_with (go_at_call 26; refine (none_nil _).mono ?_; rintro e w' ⟨rfl, rfl⟩)
  apply wp_goto
  refine fwd_goto _ _ ?_
  go_wp2
  rw [Exit.noGoto_ret]
  have hF : Fr [] w ((w1.setCell ⟨w.heap.size + 1, 0, none⟩ (.slice none 0 0)).alloc (bxp a (.slice A1 d.length c1))) := (HF1.out.setCell (p := ⟨w.heap.size + 1, 0, none⟩) (.inr (by simp)) (.slice none 0 0)).alloc (bxp a (.slice A1 d.length c1))
  have hB := (Bo1.out.set_ 0 (.slice none 0 0)).alloc (bxp a (.slice A1 d.length c1))
  have hres : World.cell? ((w1.setCell ⟨w.heap.size + 1, 0, none⟩ (.slice none 0 0)).alloc (bxp a (.slice A1 d.length c1))) ⟨w.heap.size + 1, 0, none⟩ = some (.slice none 0 0) := (hB.cell 0).trans (by simp)
  clear hB
  generalize (w1.setCell ⟨w.heap.size + 1, 0, none⟩ (.slice none 0 0)).alloc (bxp a (.slice A1 d.length c1)) = Wf at *
  refine bodyPost_ret (v := .tuple #[.slice none 0 0, .int .i64 1]) (by simp [results, Try.results16, go_sem, hres]) rfl ?_
  exact ⟨rfl, hF⟩

set_option maxRecDepth 100000 in
set_option maxHeartbeats 4000000 in
theorem nil_any (a : Int) (A : Option Addr) (n c : Nat) (d : List Int) (hn : d.length = n) (w : World) (hd : Byt (fun b => b < w.heap.size) w (.slice A n c) d) : Calls Try.prog 7 #[.int .i64 a, .slice A n c] w fun e w' => e = .returned (.bool true) ∧ Fr [] w w' := by
  subst hn
  have HD := Lib.hid hd
  clear hd
  have H1 : Hid (∀ W, Fr [] w W → d.length ≤ 100 → Calls Try.prog 16 #[.pointer none, .int .i64 a, .slice A d.length c] W _) := Lib.hid (fun W f h => put_nil W a _ d _ (HD.out.fr f (by simp)) (by omega))
  go_enter Try.func7, Try.ntmps7
  by_cases hl : 100 < (d.length : Int)
  · go_wp2_with (go_at_call 9; refine (known_any _).mono ?_; rintro e w1 ⟨rfl, f1⟩)
    go_ret
    exact ⟨rfl, f1⟩
  · have hz : Hz (w.alloc (.cells #[.int .i64 0, .int .i64 0, .slice none 0 0, .pointer none, .bool false] 58)) w.heap.size := Blk.new w _ _
    have f0 : Fr [] w (w.alloc (.cells #[.int .i64 0, .int .i64 0, .slice none 0 0, .pointer none, .bool false] 58)) := (Fr.refl _ _).alloc _
    have hl' : d.length ≤ 100 := by omega
    go_wp2_with fail
    refine (H1.out _ f0 hl').mono ?_
    rintro e w1 ⟨rfl, f1⟩
    have z1 : Hz w1 w.heap.size := Blk.fr hz f1 (by simp)
    have F1 := Lib.hid (f0.trans f1 (by simp))
    clear f0 hz f1
    go_wp2_with fail
    refine (new_hp (fun b => b < w1.heap.size) 0 w1 (by omega) (by omega) (fun b h => h)).mono ?_
    rintro e w2 ⟨rfl, f2, m2, hz2⟩
    have z2 : Hz w2 w.heap.size := Blk.fr z1 f2 (by simp)
    have c4 : w2.cell? ⟨w1.heap.size, 4, none⟩ = some (.bool true) := by obtain ⟨ev, L, m⟩ := m2; exact m.cells.2.2.2.2
    have F2 := Lib.hid (F1.out.trans f2 (by simp))
    clear z1 F1 f2 m2 hz2
    go_wp2_with fail
    refine (end_z z2 a).mono ?_
    rintro e w3 ⟨rfl, f3⟩
    have z3 : Hz w3 w.heap.size := Blk.fr z2 f3 (by simp)
    have c43 := fr_cell f3 c4
    have F3 := Lib.hid (F2.out.trans f3 (by simp))
    clear z2 c4 F2 f3
    go_wp2_with fail
    refine (done_nil _).mono ?_
    rintro e w4 ⟨rfl, f4⟩
    have z4 : Hz w4 w.heap.size := Blk.fr z3 f4 (by simp)
    have c44 := fr_cell f4 c43
    have F4 := Lib.hid (F3.out.trans f4 (by simp))
    clear z3 c43 F3 f4
    go_wp2_with fail
    refine (done_z z4).mono ?_
    rintro e w5 ⟨rfl, f5⟩
    have z5 : Hz w5 w.heap.size := Blk.fr z4 f5 (by simp)
    have c45 := fr_cell f5 c44
    have F5 := Lib.hid (F4.out.trans f5 (by simp))
    clear z4 c44 F4 f5
    go_wp2_with fail
    refine (next_nil _).mono ?_
    rintro e w6 ⟨rfl, rfl⟩
    go_wp2_with fail
    refine (held_z z5).mono ?_
    rintro e w6 ⟨rfl, rfl⟩
    go_wp2_with fail
    refine (pieces_nil _).mono ?_
    rintro e w6 ⟨rfl, rfl⟩
    go_wp2_with fail
    refine (copy_z z5).mono ?_
    rintro e w6 ⟨rfl, rfl⟩
    go_wp2_with fail
    refine (same_nil_z z5).mono ?_
    rintro e w6 ⟨rfl, rfl⟩
    go_wp2_with fail
    refine (same_nil_hp c45).mono ?_
    rintro e w6 ⟨rfl, rfl⟩
    go_wp2_with fail
    refine (same_hp_z c45 z5).mono ?_
    rintro e w6 ⟨rfl, rfl⟩
    go_wp2_with fail
    refine (known_any _).mono ?_
    rintro e w6 ⟨rfl, f6⟩
    go_wp2_with fail
    go_ret
    exact ⟨rfl, F5.out.trans f6 (by simp)⟩
end Go.Proofs.Ytdlmhadcaagokaa
