import Derived.Test.YtdlmhadcaagokaaG
import Derived.Deep.DeepCutAuto
import Derived.Deep.RegionLaw
namespace Go.Proofs.Ytdlmhadcaagokaa
open Go.RowKit Go.Deep Go.Shelf

set_option maxRecDepth 100000 in
set_option maxHeartbeats 2000000 in
theorem put_low {S : Nat → Prop} {w : World} {g : Nat} {kv : Value} {h : Hp} (m : HP S w g kv h) (a : Int) (dv : Value) (d : List Int) (T : Nat → Prop) (hd : Byt T w dv d) (hl : d.length ≤ 1000000) (h0 : 0 ≤ a) (h1 : a ≤ 4611686018427387904) (h2 : 1 ≤ d.length) (h3 : d.length ≤ 64) (h4 : past h.fin (a + d.length) = false) (h5 : a + d.length ≤ h.next) :
    Calls Try.prog 16 #[ptr g, .int .i64 a, dv] w (PutPost S w g kv h [] 0) := by
  have M := Lib.hid m
  obtain ⟨ev, L, m⟩ := m
  obtain ⟨A, c, rfl, hn, hcm⟩ := hd.form
  have c4 := m.cells.2.2.2.2
  have hg := m.blk.lt
  have hcl : ∀ W, Fr [] w W → Calls Try.prog 27 #[.slice A d.length c] W _ := fun W f => cloneB_any W (hd.fr f (by simp)) hl
  have Hcl := Lib.hid hcl
  have f0 : Fr [] w ((w.alloc (.cells #[ptr g] 25)).alloc (.cells #[.slice none 0 0] 35)) := ((Fr.refl _ _).alloc _).alloc _
  have bo := Blk.new (w.alloc (.cells #[ptr g] 25)) 35 #[.slice none 0 0]
  have bh := (Blk.new w 25 #[ptr g]).alloc (.cells #[.slice none 0 0] 35)
  have BO := Lib.hid bo
  have BH := Lib.hid bh
  have M0 := Lib.hid m
  clear hcl m hd bo bh
  have HP := Lib.hid h4
  have h6 : a < h.next := by omega
  clear h4
  go_enter Try.func16, Try.ntmps16
  go_wp2_with fail
  refine wp_scope_fwd 0 rfl ?_
  go_wp2_with fail
  refine (Hcl.out _ f0).mono ?_
  rintro e w1 ⟨A1, c1, rfl, own1, f1, fb1⟩
  have F1 : Fr [] w w1 := f0.trans f1 (by simp)
  have b4 := fr_cell F1 c4
  have bh1 := BH.out.fr f1 (by simp)
  have bo1 : Blk w1 (w.heap.size + 1) 35 #[.slice none 0 0] := by simpa using BO.out.fr f1 (by simp)
  have bh0 : w1.cell? ⟨w.heap.size, 0, none⟩ = some (ptr g) := bh1.cell 0
  have bo0 : w1.cell? ⟨w.heap.size + 1, 0, none⟩ = some (.slice none 0 0) := by simpa using bo1.cell 0
  have bof : w1.frozen? ⟨w.heap.size + 1, 0, none⟩ = false := by simpa using bo1.frozen 0
  have sz1 : w.heap.size + 1 < w1.heap.size := by have := f1.size; simp at this; omega
  have sz2 : w.heap.size < w1.heap.size := by omega
  have hg1 : g < w1.heap.size := by omega
  have HF1 := Lib.hid F1
  have HO1 := Lib.hid own1
  have HB1 := Lib.hid fb1
  have Bh1 := Lib.hid bh1
  have Bo1 := Lib.hid bo1
  clear f0 f1 F1 own1 fb1 c4 bh1 bo1
  go_upto_region 7 with (go_at_call 26; refine (none_hp ?_).mono ?_; (first | exact b4 | exact cell_al b4 _ | assumption); rintro e w' ⟨rfl, rfl⟩)
  have fp : Fr [] w1 (w1.alloc (bxp a (.slice A1 d.length c1))) := (Fr.refl _ _).alloc _
  have pb := Blk.new w1 67 #[.int .i64 a, .slice A1 d.length c1]
  have szp : w1.heap.size < (w1.alloc (bxp a (.slice A1 d.length c1))).heap.size := by simp
  generalize w1.alloc (bxp a (.slice A1 d.length c1)) = W1 at *
  have FP := Lib.hid fp
  have PB := Lib.hid pb
  clear fp pb bh0 bo0 bof b4 hn
  go_cut [47] (fun s47 wx => s47 = .bool (past h.fin (a + d.length)) ∧ Fr [] W1 wx)
  case first =>
    have qh := fr_cell FP.out (show w1.cell? ⟨w.heap.size, 0, none⟩ = some (ptr g) from Bh1.out.cell 0)
    have q3 := fr_cell (HF1.out.trans FP.out (by simp)) M0.out.cells.2.2.2.1
    have p0 := PB.out.cell 0
    have p1 := PB.out.cell 1
    have x0 := Grew.cell qh
    have x1 := Grew.cell q3
    have x2 := Grew.cell p0
    have x3 := Grew.cell p1
    have hbeh : ∀ p : Grew W1, Calls Try.prog 28 #[agp a (.slice A1 d.length c1)] p.W fun e w'' => e = .returned (.int .i64 (a + d.length)) ∧ ∃ q : Grew W1, w'' = q.W := fun p => grew_call (behind_fr a A1 d.length c1 _ h0 (by omega) (by omega))
    have HBH := Lib.hid hbeh
    have hfin := M0.out.fin
    clear qh q3 p0 p1 hbeh
    rcases hfin with ⟨e1, rfl⟩ | ⟨fa, fb, e1, rfl, e3, e4⟩
    · have e5 : past h.fin (a + d.length) = false := by unfold past; rw [e1]
      have E5 := Lib.hid e5
      clear e1 e5
      refine wp_region_grew (by kernel_rfl) (by kernel_rfl) ?_
      repeat (go_big_quiet_step ((go_at_call 28; exact HBH.out _)))
      refine wpQuiet_nil ?_
      intro W2 f2
      go_wp2_with fail
      go_meet
      exact ⟨by rw [E5.out], f2⟩
    · have e5 : past h.fin (a + d.length) = decide (fa < a + d.length) := by unfold past; rw [e1]
      have E5 := Lib.hid e5
      have x4 := Grew.cell (fr_cell (HF1.out.trans FP.out (by simp)) e4)
      clear e1 e5 e4
      refine wp_region_grew (by kernel_rfl) (by kernel_rfl) ?_
      repeat (go_big_quiet_step ((go_at_call 28; exact HBH.out _)))
      refine wpQuiet_nil ?_
      intro W2 f2
      go_wp2_with fail
      go_meet
      exact ⟨by rw [E5.out], f2⟩
  case rest =>
    obtain ⟨rfl, f2⟩ := hcut
    generalize wc = W2 at *
    have F2 := Lib.hid ((HF1.out.trans FP.out (by simp)).trans f2 (by simp))
    have Bh2 := Lib.hid (Bh1.out.fr (FP.out.trans f2 (by simp)) (by simp))
    have Bo2 := Lib.hid (Bo1.out.fr (FP.out.trans f2 (by simp)) (by simp))
    have Pb2 := Lib.hid (PB.out.fr f2 (by simp))
    have M2 := Lib.hid (M0.out.fr F2.out (by simp) (by simp) (by simp))
    have D2 := Lib.hid (own_fr HO1.out (FP.out.trans f2 (by simp)) (by simp))
    clear f2
    have xbh : W2.cell? ⟨w.heap.size, 0, none⟩ = some (ptr g) := Bh2.out.cell 0
    have xbo : W2.cell? ⟨w.heap.size + 1, 0, none⟩ = some (.slice none 0 0) := Bo2.out.cell 0
    have xbof := Bo2.out.frozen 0
    have xp0 : W2.cell? ⟨w1.heap.size, 0, none⟩ = some (.int .i64 a) := Pb2.out.cell 0
    have xp1 : W2.cell? ⟨w1.heap.size, 1, none⟩ = some (.slice A1 d.length c1) := Pb2.out.cell 1
    obtain ⟨xc0, xc1, xc2, xc3, xc4⟩ := M2.out.cells
    have xsp := Pb2.out.lt
    have xsh := Bh2.out.lt
    have xso := Bo2.out.lt
    have xsg := M2.out.blk.lt
    rw [HP.out]
    go_upto_region 8 with fail
    have y0 := Grew.cell xbh
    have y1 := Grew.cell xc1
    have y2 := Grew.cell xp0
    have y3 := Grew.cell xp1
    have y4 := Grew.cell xc0
    have y5 := Grew.cell xc2
    have hbeh : ∀ p : Grew W2, Calls Try.prog 28 #[agp a (.slice A1 d.length c1)] p.W fun e w'' => e = .returned (.int .i64 (a + d.length)) ∧ ∃ q : Grew W2, w'' = q.W := fun p => grew_call (behind_fr a A1 d.length c1 _ h0 (by omega) (by omega))
    have HBH := Lib.hid hbeh
    clear hbeh
    refine wp_region_grew (by kernel_rfl) (by kernel_rfl) ?_
    repeat (go_big_quiet_step ((go_at_call 28; exact HBH.out _)))
    refine wpQuiet_nil ?_
    intro W3 f3
    have F3 := Lib.hid (F2.out.trans f3 (by simp))
    have Bh3 := Lib.hid (Bh2.out.fr f3 (by simp))
    have Bo3 := Lib.hid (Bo2.out.fr f3 (by simp))
    have Pb3 := Lib.hid (Pb2.out.fr f3 (by simp))
    have M3 := Lib.hid (M2.out.fr f3 (by simp) (by simp) (by simp))
    have D3 := Lib.hid (own_fr D2.out f3 (by simp))
    clear y0 y1 y2 y3 y4 y5 xbh xbo xbof xp0 xp1 xc0 xc1 xc2 xc3 xc4 xsp xsh xso xsg f3
    have xbh : W3.cell? ⟨w.heap.size, 0, none⟩ = some (ptr g) := Bh3.out.cell 0
    have xbo : W3.cell? ⟨w.heap.size + 1, 0, none⟩ = some (.slice none 0 0) := Bo3.out.cell 0
    have xbof := Bo3.out.frozen 0
    have xp0 : W3.cell? ⟨w1.heap.size, 0, none⟩ = some (.int .i64 a) := Pb3.out.cell 0
    have xp1 : W3.cell? ⟨w1.heap.size, 1, none⟩ = some (.slice A1 d.length c1) := Pb3.out.cell 1
    obtain ⟨xc0, xc1, xc2, xc3, xc4⟩ := M3.out.cells
    have xsp := Pb3.out.lt
    have xsh := Bh3.out.lt
    have xso := Bo3.out.lt
    have xsg := M3.out.blk.lt
    go_wp2_with fail
    have y0 := Grew.cell xbh
    have y1 := Grew.cell xc1
    have y2 := Grew.cell xp0
    have y3 := Grew.cell xp1
    have y4 := Grew.cell xc0
    have y5 := Grew.cell xc2
    refine wp_region_grew (by kernel_rfl) (by kernel_rfl) ?_
    repeat (go_big_quiet_step (fail))
    refine wpQuiet_nil ?_
    intro W4 f4
    have F4 := Lib.hid (F3.out.trans f4 (by simp))
    have Bh4 := Lib.hid (Bh3.out.fr f4 (by simp))
    have Bo4 := Lib.hid (Bo3.out.fr f4 (by simp))
    have Pb4 := Lib.hid (Pb3.out.fr f4 (by simp))
    have M4 := Lib.hid (M3.out.fr f4 (by simp) (by simp) (by simp))
    have D4 := Lib.hid (own_fr D3.out f4 (by simp))
    clear y0 y1 y2 y3 y4 y5 xbh xbo xbof xp0 xp1 xc0 xc1 xc2 xc3 xc4 xsp xsh xso xsg f4
    have xbh : W4.cell? ⟨w.heap.size, 0, none⟩ = some (ptr g) := Bh4.out.cell 0
    have xbo : W4.cell? ⟨w.heap.size + 1, 0, none⟩ = some (.slice none 0 0) := Bo4.out.cell 0
    have xbof := Bo4.out.frozen 0
    have xp0 : W4.cell? ⟨w1.heap.size, 0, none⟩ = some (.int .i64 a) := Pb4.out.cell 0
    have xp1 : W4.cell? ⟨w1.heap.size, 1, none⟩ = some (.slice A1 d.length c1) := Pb4.out.cell 1
    obtain ⟨xc0, xc1, xc2, xc3, xc4⟩ := M4.out.cells
    have xsp := Pb4.out.lt
    have xsh := Bh4.out.lt
    have xso := Bo4.out.lt
    have xsg := M4.out.blk.lt
    go_wp2_with fail
    have hF : Fr [] w (W4.setCell ⟨w.heap.size + 1, 0, none⟩ (.slice none 0 0)) := F4.out.setCell (p := ⟨w.heap.size + 1, 0, none⟩) (.inr (by simp)) (.slice none 0 0)
    have hB := Bo4.out.set_ 0 (.slice none 0 0)
    have hres : World.cell? (W4.setCell ⟨w.heap.size + 1, 0, none⟩ (.slice none 0 0)) ⟨w.heap.size + 1, 0, none⟩ = some (.slice none 0 0) := (hB.cell 0).trans (by simp)
    clear hB
    generalize W4.setCell ⟨w.heap.size + 1, 0, none⟩ (.slice none 0 0) = Wf at *
    refine bodyPost_ret (v := .tuple #[.slice none 0 0, .int .i64 0]) (by simp [results, Try.results16, go_sem, hres]) rfl ?_
    exact put_same M.out hF _
end Go.Proofs.Ytdlmhadcaagokaa
