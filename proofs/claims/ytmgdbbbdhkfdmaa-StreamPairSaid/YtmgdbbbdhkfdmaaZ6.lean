import Derived.Test.YtmgdbbbdhkfdmaaZ5
import Derived.Deep.DeepCutAuto
import Derived.Deep.RegionLaw
set_option linter.unusedSimpArgs false
set_option linter.unusedVariables false
namespace Go.Proofs.Ytmgdbbbdhkfdmaa
set_option maxRecDepth 100000
open Go.RowKit Go.Deep Go.Shelf

set_option maxRecDepth 100000 in
set_option maxHeartbeats 2000000 in
theorem put_longer {S : Nat → Prop} {w : World} {g : Nat} {kv : Value} {h : Hp} (m : HP S w g kv h) (a : Int) (dv : Value) (d : List Int) (T : Nat → Prop) (hd : Byt T w dv d) (hl : d.length ≤ 1000000) (h0 : 0 ≤ a) (h1 : a ≤ 4611686018427387904) (h2 : 1 ≤ d.length) (h3 : d.length ≤ 64) (h4 : past h.fin (a + d.length) = false) (h5 : h.next < a) (h6 : h.kept.any (longer a d.length) = true) (hlen : h.kept.length ≤ 64) :
    Calls Try.prog 78 #[ptr g, .int .i64 a, dv] w (PutPost S w g kv h [] 0) := by
  have M := Lib.hid m
  obtain ⟨ev, L, m⟩ := m
  obtain ⟨A, c, rfl, hn, hcm⟩ := hd.form
  have c4 := m.cells.2.2.2.2
  have hg := m.blk.lt
  have hcl : ∀ W, Fr [] w W → Calls Try.prog 44 #[.slice A d.length c] W _ := fun W f => cloneB_any W (hd.fr f (by simp)) hl
  have Hcl := Lib.hid hcl
  have f0 : Fr [] w ((w.alloc (.cells #[ptr g] 37)).alloc (.cells #[.slice none 0 0] 25)) := ((Fr.refl _ _).alloc _).alloc _
  have bo := Blk.new (w.alloc (.cells #[ptr g] 37)) 25 #[.slice none 0 0]
  have bh := (Blk.new w 37 #[ptr g]).alloc (.cells #[.slice none 0 0] 25)
  have BO := Lib.hid bo
  have BH := Lib.hid bh
  have M0 := Lib.hid m
  clear hcl m hd bo bh
  have HP := Lib.hid h4
  have HANY := Lib.hid h6
  have h7 : (a == h.next) = false := by simp; omega
  have h7' : decide (a < h.next) = false := by simp; omega
  clear h4 h6
  have Hlen : Hid (h.kept.length ≤ 64) := hlen
  clear hlen
  go_enter Try.func78, Try.ntmps78
  go_wp2_with fail
  refine wp_scope_fwd 0 rfl ?_
  go_wp2_with fail
  refine (Hcl.out _ f0).mono ?_
  rintro e w1 ⟨A1, c1, rfl, own1, f1, fb1⟩
  have F1 : Fr [] w w1 := f0.trans f1 (by simp)
  have b4 := fr_cell F1 c4
  have bh1 := BH.out.fr f1 (by simp)
  have bo1 : Blk w1 (w.heap.size + 1) 25 #[.slice none 0 0] := by simpa using BO.out.fr f1 (by simp)
  have bh0 : w1.cell? ⟨w.heap.size, 0, none⟩ = some (ptr g) := bh1.cell 0
  have bo0 : w1.cell? ⟨w.heap.size + 1, 0, none⟩ = some (.slice none 0 0) := by simpa using bo1.cell 0
  have bof : w1.frozen? ⟨w.heap.size + 1, 0, none⟩ = false := by simpa using bo1.frozen 0
  have sz1 : w.heap.size + 1 < w1.heap.size := by have := f1.size; simp at this; omega
  have sz2 : w.heap.size < w1.heap.size := by omega
  have hg1 : g < w1.heap.size := by omega
  have HF1 := Lib.hid F1
  have HO1 := Lib.hid own1
  have HB1 := Lib.hid fb1
  have Bh1 := Lib.hid bh1
  have Bo1 := Lib.hid bo1
  clear f0 f1 F1 own1 fb1 c4 bh1 bo1
  go_upto_region 7 with (go_at_call 70; refine (none_hp ?_).mono ?_; (first | exact b4 | exact cell_al b4 _ | assumption); rintro e w' ⟨rfl, rfl⟩)
  have fp : Fr [] w1 (w1.alloc (bxp a (.slice A1 d.length c1))) := (Fr.refl _ _).alloc _
  have pb := Blk.new w1 120 #[.int .i64 a, .slice A1 d.length c1]
  have szp : w1.heap.size < (w1.alloc (bxp a (.slice A1 d.length c1))).heap.size := by simp
  generalize w1.alloc (bxp a (.slice A1 d.length c1)) = W1 at *
  have FP := Lib.hid fp
  have PB := Lib.hid pb
  clear fp pb bh0 bo0 bof b4 hn
  go_cut [47] (fun s47 wx => s47 = .bool (past h.fin (a + d.length)) ∧ Fr [] W1 wx)
  case first =>
    have qh := fr_cell FP.out (show w1.cell? ⟨w.heap.size, 0, none⟩ = some (ptr g) from Bh1.out.cell 0)
    have q3 := fr_cell (HF1.out.trans FP.out (by simp)) M0.out.cells.2.2.2.1
    have p0 := PB.out.cell 0
    have p1 := PB.out.cell 1
    have x0 := Grew.cell qh
    have x1 := Grew.cell q3
    have x2 := Grew.cell p0
    have x3 := Grew.cell p1
    have hbeh : ∀ p : Grew W1, Calls Try.prog 86 #[agp a (.slice A1 d.length c1)] p.W fun e w'' => e = .returned (.int .i64 (a + d.length)) ∧ ∃ q : Grew W1, w'' = q.W := fun p => grew_call (behind_fr a A1 d.length c1 _ h0 (by omega) (by omega))
    have HBH := Lib.hid hbeh
    have hfin := M0.out.fin
    clear qh q3 p0 p1 hbeh
    rcases hfin with ⟨e1, rfl⟩ | ⟨fa, fb, e1, rfl, e3, e4⟩
    · have e5 : past h.fin (a + d.length) = false := by unfold past; rw [e1]
      have E5 := Lib.hid e5
      clear e1 e5
      refine wp_region_grew (by kernel_rfl) (by kernel_rfl) ?_
      repeat (go_big_quiet_step ((go_at_call 86; exact HBH.out _)))
      refine wpQuiet_nil ?_
      intro W2 f2
      go_wp2_with fail
      go_meet
      exact ⟨by rw [E5.out], f2⟩
    · have e5 : past h.fin (a + d.length) = decide (fa < a + d.length) := by unfold past; rw [e1]
      have E5 := Lib.hid e5
      have x4 := Grew.cell (fr_cell (HF1.out.trans FP.out (by simp)) e4)
      clear e1 e5 e4
      refine wp_region_grew (by kernel_rfl) (by kernel_rfl) ?_
      repeat (go_big_quiet_step ((go_at_call 86; exact HBH.out _)))
      refine wpQuiet_nil ?_
      intro W2 f2
      go_wp2_with fail
      go_meet
      exact ⟨by rw [E5.out], f2⟩
  case rest =>
    obtain ⟨rfl, f2⟩ := hcut
    generalize wc = W2 at *
    have F2 := Lib.hid ((HF1.out.trans FP.out (by simp)).trans f2 (by simp))
    have Bh2 := Lib.hid (Bh1.out.fr (FP.out.trans f2 (by simp)) (by simp))
    have Bo2 := Lib.hid (Bo1.out.fr (FP.out.trans f2 (by simp)) (by simp))
    have Pb2 := Lib.hid (PB.out.fr f2 (by simp))
    have M2 := Lib.hid (M0.out.fr F2.out (by simp) (by simp) (by simp))
    have D2 := Lib.hid (own_fr HO1.out (FP.out.trans f2 (by simp)) (by simp))
    clear f2
    have xbh : W2.cell? ⟨w.heap.size, 0, none⟩ = some (ptr g) := Bh2.out.cell 0
    have xbo : W2.cell? ⟨w.heap.size + 1, 0, none⟩ = some (.slice none 0 0) := Bo2.out.cell 0
    have xbof := Bo2.out.frozen 0
    have xp0 : W2.cell? ⟨w1.heap.size, 0, none⟩ = some (.int .i64 a) := Pb2.out.cell 0
    have xp1 : W2.cell? ⟨w1.heap.size, 1, none⟩ = some (.slice A1 d.length c1) := Pb2.out.cell 1
    obtain ⟨xc0, xc1, xc2, xc3, xc4⟩ := M2.out.cells
    have xsp := Pb2.out.lt
    have xsh := Bh2.out.lt
    have xso := Bo2.out.lt
    have xsg := M2.out.blk.lt
    rw [HP.out]
    go_upto_region 8 with fail
    have y0 := Grew.cell xbh
    have y1 := Grew.cell xc1
    have y2 := Grew.cell xp0
    have y3 := Grew.cell xp1
    have y4 := Grew.cell xc0
    have y5 := Grew.cell xc2
    have hbeh : ∀ p : Grew W2, Calls Try.prog 86 #[agp a (.slice A1 d.length c1)] p.W fun e w'' => e = .returned (.int .i64 (a + d.length)) ∧ ∃ q : Grew W2, w'' = q.W := fun p => grew_call (behind_fr a A1 d.length c1 _ h0 (by omega) (by omega))
    have HBH := Lib.hid hbeh
    clear hbeh
    refine wp_region_grew (by kernel_rfl) (by kernel_rfl) ?_
    repeat (go_big_quiet_step ((go_at_call 86; exact HBH.out _)))
    refine wpQuiet_nil ?_
    intro W3 f3
    have F3 := Lib.hid (F2.out.trans f3 (by simp))
    have Bh3 := Lib.hid (Bh2.out.fr f3 (by simp))
    have Bo3 := Lib.hid (Bo2.out.fr f3 (by simp))
    have Pb3 := Lib.hid (Pb2.out.fr f3 (by simp))
    have M3 := Lib.hid (M2.out.fr f3 (by simp) (by simp) (by simp))
    have D3 := Lib.hid (own_fr D2.out f3 (by simp))
    clear y0 y1 y2 y3 y4 y5 xbh xbo xbof xp0 xp1 xc0 xc1 xc2 xc3 xc4 xsp xsh xso xsg f3
    have xbh : W3.cell? ⟨w.heap.size, 0, none⟩ = some (ptr g) := Bh3.out.cell 0
    have xbo : W3.cell? ⟨w.heap.size + 1, 0, none⟩ = some (.slice none 0 0) := Bo3.out.cell 0
    have xbof := Bo3.out.frozen 0
    have xp0 : W3.cell? ⟨w1.heap.size, 0, none⟩ = some (.int .i64 a) := Pb3.out.cell 0
    have xp1 : W3.cell? ⟨w1.heap.size, 1, none⟩ = some (.slice A1 d.length c1) := Pb3.out.cell 1
    obtain ⟨xc0, xc1, xc2, xc3, xc4⟩ := M3.out.cells
    have xsp := Pb3.out.lt
    have xsh := Bh3.out.lt
    have xso := Bo3.out.lt
    have xsg := M3.out.blk.lt
    go_wp2_with fail
    have y0 := Grew.cell xbh
    have y1 := Grew.cell xc1
    have y2 := Grew.cell xp0
    have y3 := Grew.cell xp1
    have y4 := Grew.cell xc0
    have y5 := Grew.cell xc2
    refine wp_region_grew (by kernel_rfl) (by kernel_rfl) ?_
    repeat (go_big_quiet_step (fail))
    refine wpQuiet_nil ?_
    intro W4 f4
    have F4 := Lib.hid (F3.out.trans f4 (by simp))
    have Bh4 := Lib.hid (Bh3.out.fr f4 (by simp))
    have Bo4 := Lib.hid (Bo3.out.fr f4 (by simp))
    have Pb4 := Lib.hid (Pb3.out.fr f4 (by simp))
    have M4 := Lib.hid (M3.out.fr f4 (by simp) (by simp) (by simp))
    have D4 := Lib.hid (own_fr D3.out f4 (by simp))
    clear y0 y1 y2 y3 y4 y5 xbh xbo xbof xp0 xp1 xc0 xc1 xc2 xc3 xc4 xsp xsh xso xsg f4
    have xbh : W4.cell? ⟨w.heap.size, 0, none⟩ = some (ptr g) := Bh4.out.cell 0
    have xbo : W4.cell? ⟨w.heap.size + 1, 0, none⟩ = some (.slice none 0 0) := Bo4.out.cell 0
    have xbof := Bo4.out.frozen 0
    have xp0 : W4.cell? ⟨w1.heap.size, 0, none⟩ = some (.int .i64 a) := Pb4.out.cell 0
    have xp1 : W4.cell? ⟨w1.heap.size, 1, none⟩ = some (.slice A1 d.length c1) := Pb4.out.cell 1
    obtain ⟨xc0, xc1, xc2, xc3, xc4⟩ := M4.out.cells
    have xsp := Pb4.out.lt
    have xsh := Bh4.out.lt
    have xso := Bo4.out.lt
    have xsg := M4.out.blk.lt
    go_wp2_with fail
    have y0 := Grew.cell xbh
    have y1 := Grew.cell xc1
    have y2 := Grew.cell xp0
    have y3 := Grew.cell xp1
    have y4 := Grew.cell xc0
    have y5 := Grew.cell xc2
    refine wp_region_grew (by kernel_rfl) (by kernel_rfl) ?_
    repeat (go_big_quiet_step (fail))
    refine wpQuiet_nil ?_
    intro W5 f5
    have F5 := Lib.hid (F4.out.trans f5 (by simp))
    have Bh5 := Lib.hid (Bh4.out.fr f5 (by simp))
    have Bo5 := Lib.hid (Bo4.out.fr f5 (by simp))
    have Pb5 := Lib.hid (Pb4.out.fr f5 (by simp))
    have M5 := Lib.hid (M4.out.fr f5 (by simp) (by simp) (by simp))
    have D5 := Lib.hid (own_fr D4.out f5 (by simp))
    clear y0 y1 y2 y3 y4 y5 xbh xbo xbof xp0 xp1 xc0 xc1 xc2 xc3 xc4 xsp xsh xso xsg f5
    have xbh : W5.cell? ⟨w.heap.size, 0, none⟩ = some (ptr g) := Bh5.out.cell 0
    have xbo : W5.cell? ⟨w.heap.size + 1, 0, none⟩ = some (.slice none 0 0) := Bo5.out.cell 0
    have xbof := Bo5.out.frozen 0
    have xp0 : W5.cell? ⟨w1.heap.size, 0, none⟩ = some (.int .i64 a) := Pb5.out.cell 0
    have xp1 : W5.cell? ⟨w1.heap.size, 1, none⟩ = some (.slice A1 d.length c1) := Pb5.out.cell 1
    obtain ⟨xc0, xc1, xc2, xc3, xc4⟩ := M5.out.cells
    have xsp := Pb5.out.lt
    have xsh := Bh5.out.lt
    have xso := Bo5.out.lt
    have xsg := M5.out.blk.lt
    have hf := first_put S W5 w1.heap.size a A1 d.length c1 xp0 xp1 kv L M5.out.kp (by have := M5.out.len; have := Hlen.out; omega)
    have hbl := best_longer a d.length (L.map (·.1))
    rw [List.length_map, ← M5.out.kept] at hbl
    rw [HANY.out] at hbl
    rw [← M5.out.kept] at hf
    have Hf := Lib.hid hf
    clear hf
    generalize bestV (longer a d.length) (fun _ _ => false) h.kept L.length = bb at *
    have hbb : 0 ≤ bb := by simpa using hbl
    clear hbl
    go_wp2_with fail
    refine Hf.out.mono ?_
    rintro e W6 ⟨rfl, f6⟩
    have F6 := Lib.hid (F5.out.trans f6 (by simp))
    have Bh6 := Lib.hid (Bh5.out.fr f6 (by simp))
    have Bo6 := Lib.hid (Bo5.out.fr f6 (by simp))
    have Pb6 := Lib.hid (Pb5.out.fr f6 (by simp))
    have M6 := Lib.hid (M5.out.fr f6 (by simp) (by simp) (by simp))
    have D6 := Lib.hid (own_fr D5.out f6 (by simp))
    clear xbh xbo xbof xp0 xp1 xc0 xc1 xc2 xc3 xc4 xsp xsh xso xsg f6
    have xbh : W6.cell? ⟨w.heap.size, 0, none⟩ = some (ptr g) := Bh6.out.cell 0
    have xbo : W6.cell? ⟨w.heap.size + 1, 0, none⟩ = some (.slice none 0 0) := Bo6.out.cell 0
    have xbof := Bo6.out.frozen 0
    have xp0 : W6.cell? ⟨w1.heap.size, 0, none⟩ = some (.int .i64 a) := Pb6.out.cell 0
    have xp1 : W6.cell? ⟨w1.heap.size, 1, none⟩ = some (.slice A1 d.length c1) := Pb6.out.cell 1
    obtain ⟨xc0, xc1, xc2, xc3, xc4⟩ := M6.out.cells
    have xsp := Pb6.out.lt
    have xsh := Bh6.out.lt
    have xso := Bo6.out.lt
    have xsg := M6.out.blk.lt
    go_wp2_with fail
    have hF : Fr [] w (W6.setCell ⟨w.heap.size + 1, 0, none⟩ (.slice none 0 0)) := F6.out.setCell (p := ⟨w.heap.size + 1, 0, none⟩) (.inr (by simp)) (.slice none 0 0)
    have hB := Bo6.out.set_ 0 (.slice none 0 0)
    have hres : World.cell? (W6.setCell ⟨w.heap.size + 1, 0, none⟩ (.slice none 0 0)) ⟨w.heap.size + 1, 0, none⟩ = some (.slice none 0 0) := (hB.cell 0).trans (by simp)
    clear hB
    generalize W6.setCell ⟨w.heap.size + 1, 0, none⟩ (.slice none 0 0) = Wf at *
    refine bodyPost_ret (v := .tuple #[.slice none 0 0, .int .i64 0]) (by simp [results, Try.results78, go_sem, hres]) rfl ?_
    exact put_same M.out hF _
end Go.Proofs.Ytmgdbbbdhkfdmaa

namespace Go.Proofs.Ytmgdbbbdhkfdmaa
set_option maxRecDepth 100000
open Go.RowKit Go.Deep Go.Shelf

set_option maxRecDepth 100000 in
set_option maxHeartbeats 2000000 in
theorem put_full {S : Nat → Prop} {w : World} {g : Nat} {kv : Value} {h : Hp} (m : HP S w g kv h) (a : Int) (dv : Value) (d : List Int) (T : Nat → Prop) (hd : Byt T w dv d) (hl : d.length ≤ 1000000) (h0 : 0 ≤ a) (h1 : a ≤ 4611686018427387904) (h2 : 1 ≤ d.length) (h3 : d.length ≤ 64) (h4 : past h.fin (a + d.length) = false) (h5 : h.next < a) (h6 : h.kept.any (longer a d.length) = false) (hlen : h.kept.length ≤ 64) (h8 : h.most ≤ h.kept.length) :
    Calls Try.prog 78 #[ptr g, .int .i64 a, dv] w (PutPost S w g kv h [] 251) := by
  have M := Lib.hid m
  obtain ⟨ev, L, m⟩ := m
  obtain ⟨A, c, rfl, hn, hcm⟩ := hd.form
  have c4 := m.cells.2.2.2.2
  have hg := m.blk.lt
  have hcl : ∀ W, Fr [] w W → Calls Try.prog 44 #[.slice A d.length c] W _ := fun W f => cloneB_any W (hd.fr f (by simp)) hl
  have Hcl := Lib.hid hcl
  have f0 : Fr [] w ((w.alloc (.cells #[ptr g] 37)).alloc (.cells #[.slice none 0 0] 25)) := ((Fr.refl _ _).alloc _).alloc _
  have bo := Blk.new (w.alloc (.cells #[ptr g] 37)) 25 #[.slice none 0 0]
  have bh := (Blk.new w 37 #[ptr g]).alloc (.cells #[.slice none 0 0] 25)
  have BO := Lib.hid bo
  have BH := Lib.hid bh
  have M0 := Lib.hid m
  clear hcl m hd bo bh
  have HP := Lib.hid h4
  have HANY := Lib.hid h6
  have h7 : (a == h.next) = false := by simp; omega
  have h7' : decide (a < h.next) = false := by simp; omega
  have H8 := Lib.hid h8
  clear h4 h6 h8
  have Hlen : Hid (h.kept.length ≤ 64) := hlen
  clear hlen
  go_enter Try.func78, Try.ntmps78
  go_wp2_with fail
  refine wp_scope_fwd 0 rfl ?_
  go_wp2_with fail
  refine (Hcl.out _ f0).mono ?_
  rintro e w1 ⟨A1, c1, rfl, own1, f1, fb1⟩
  have F1 : Fr [] w w1 := f0.trans f1 (by simp)
  have b4 := fr_cell F1 c4
  have bh1 := BH.out.fr f1 (by simp)
  have bo1 : Blk w1 (w.heap.size + 1) 25 #[.slice none 0 0] := by simpa using BO.out.fr f1 (by simp)
  have bh0 : w1.cell? ⟨w.heap.size, 0, none⟩ = some (ptr g) := bh1.cell 0
  have bo0 : w1.cell? ⟨w.heap.size + 1, 0, none⟩ = some (.slice none 0 0) := by simpa using bo1.cell 0
  have bof : w1.frozen? ⟨w.heap.size + 1, 0, none⟩ = false := by simpa using bo1.frozen 0
  have sz1 : w.heap.size + 1 < w1.heap.size := by have := f1.size; simp at this; omega
  have sz2 : w.heap.size < w1.heap.size := by omega
  have hg1 : g < w1.heap.size := by omega
  have HF1 := Lib.hid F1
  have HO1 := Lib.hid own1
  have HB1 := Lib.hid fb1
  have Bh1 := Lib.hid bh1
  have Bo1 := Lib.hid bo1
  clear f0 f1 F1 own1 fb1 c4 bh1 bo1
  go_upto_region 7 with (go_at_call 70; refine (none_hp ?_).mono ?_; (first | exact b4 | exact cell_al b4 _ | assumption); rintro e w' ⟨rfl, rfl⟩)
  have fp : Fr [] w1 (w1.alloc (bxp a (.slice A1 d.length c1))) := (Fr.refl _ _).alloc _
  have pb := Blk.new w1 120 #[.int .i64 a, .slice A1 d.length c1]
  have szp : w1.heap.size < (w1.alloc (bxp a (.slice A1 d.length c1))).heap.size := by simp
  generalize w1.alloc (bxp a (.slice A1 d.length c1)) = W1 at *
  have FP := Lib.hid fp
  have PB := Lib.hid pb
  clear fp pb bh0 bo0 bof b4 hn
  go_cut [47] (fun s47 wx => s47 = .bool (past h.fin (a + d.length)) ∧ Fr [] W1 wx)
  case first =>
    have qh := fr_cell FP.out (show w1.cell? ⟨w.heap.size, 0, none⟩ = some (ptr g) from Bh1.out.cell 0)
    have q3 := fr_cell (HF1.out.trans FP.out (by simp)) M0.out.cells.2.2.2.1
    have p0 := PB.out.cell 0
    have p1 := PB.out.cell 1
    have x0 := Grew.cell qh
    have x1 := Grew.cell q3
    have x2 := Grew.cell p0
    have x3 := Grew.cell p1
    have hbeh : ∀ p : Grew W1, Calls Try.prog 86 #[agp a (.slice A1 d.length c1)] p.W fun e w'' => e = .returned (.int .i64 (a + d.length)) ∧ ∃ q : Grew W1, w'' = q.W := fun p => grew_call (behind_fr a A1 d.length c1 _ h0 (by omega) (by omega))
    have HBH := Lib.hid hbeh
    have hfin := M0.out.fin
    clear qh q3 p0 p1 hbeh
    rcases hfin with ⟨e1, rfl⟩ | ⟨fa, fb, e1, rfl, e3, e4⟩
    · have e5 : past h.fin (a + d.length) = false := by unfold past; rw [e1]
      have E5 := Lib.hid e5
      clear e1 e5
      refine wp_region_grew (by kernel_rfl) (by kernel_rfl) ?_
      repeat (go_big_quiet_step ((go_at_call 86; exact HBH.out _)))
      refine wpQuiet_nil ?_
      intro W2 f2
      go_wp2_with fail
      go_meet
      exact ⟨by rw [E5.out], f2⟩
    · have e5 : past h.fin (a + d.length) = decide (fa < a + d.length) := by unfold past; rw [e1]
      have E5 := Lib.hid e5
      have x4 := Grew.cell (fr_cell (HF1.out.trans FP.out (by simp)) e4)
      clear e1 e5 e4
      refine wp_region_grew (by kernel_rfl) (by kernel_rfl) ?_
      repeat (go_big_quiet_step ((go_at_call 86; exact HBH.out _)))
      refine wpQuiet_nil ?_
      intro W2 f2
      go_wp2_with fail
      go_meet
      exact ⟨by rw [E5.out], f2⟩
  case rest =>
    obtain ⟨rfl, f2⟩ := hcut
    generalize wc = W2 at *
    have F2 := Lib.hid ((HF1.out.trans FP.out (by simp)).trans f2 (by simp))
    have Bh2 := Lib.hid (Bh1.out.fr (FP.out.trans f2 (by simp)) (by simp))
    have Bo2 := Lib.hid (Bo1.out.fr (FP.out.trans f2 (by simp)) (by simp))
    have Pb2 := Lib.hid (PB.out.fr f2 (by simp))
    have M2 := Lib.hid (M0.out.fr F2.out (by simp) (by simp) (by simp))
    have D2 := Lib.hid (own_fr HO1.out (FP.out.trans f2 (by simp)) (by simp))
    clear f2
    have xbh : W2.cell? ⟨w.heap.size, 0, none⟩ = some (ptr g) := Bh2.out.cell 0
    have xbo : W2.cell? ⟨w.heap.size + 1, 0, none⟩ = some (.slice none 0 0) := Bo2.out.cell 0
    have xbof := Bo2.out.frozen 0
    have xp0 : W2.cell? ⟨w1.heap.size, 0, none⟩ = some (.int .i64 a) := Pb2.out.cell 0
    have xp1 : W2.cell? ⟨w1.heap.size, 1, none⟩ = some (.slice A1 d.length c1) := Pb2.out.cell 1
    obtain ⟨xc0, xc1, xc2, xc3, xc4⟩ := M2.out.cells
    have xsp := Pb2.out.lt
    have xsh := Bh2.out.lt
    have xso := Bo2.out.lt
    have xsg := M2.out.blk.lt
    rw [HP.out]
    go_upto_region 8 with fail
    have y0 := Grew.cell xbh
    have y1 := Grew.cell xc1
    have y2 := Grew.cell xp0
    have y3 := Grew.cell xp1
    have y4 := Grew.cell xc0
    have y5 := Grew.cell xc2
    have hbeh : ∀ p : Grew W2, Calls Try.prog 86 #[agp a (.slice A1 d.length c1)] p.W fun e w'' => e = .returned (.int .i64 (a + d.length)) ∧ ∃ q : Grew W2, w'' = q.W := fun p => grew_call (behind_fr a A1 d.length c1 _ h0 (by omega) (by omega))
    have HBH := Lib.hid hbeh
    clear hbeh
    refine wp_region_grew (by kernel_rfl) (by kernel_rfl) ?_
    repeat (go_big_quiet_step ((go_at_call 86; exact HBH.out _)))
    refine wpQuiet_nil ?_
    intro W3 f3
    have F3 := Lib.hid (F2.out.trans f3 (by simp))
    have Bh3 := Lib.hid (Bh2.out.fr f3 (by simp))
    have Bo3 := Lib.hid (Bo2.out.fr f3 (by simp))
    have Pb3 := Lib.hid (Pb2.out.fr f3 (by simp))
    have M3 := Lib.hid (M2.out.fr f3 (by simp) (by simp) (by simp))
    have D3 := Lib.hid (own_fr D2.out f3 (by simp))
    clear y0 y1 y2 y3 y4 y5 xbh xbo xbof xp0 xp1 xc0 xc1 xc2 xc3 xc4 xsp xsh xso xsg f3
    have xbh : W3.cell? ⟨w.heap.size, 0, none⟩ = some (ptr g) := Bh3.out.cell 0
    have xbo : W3.cell? ⟨w.heap.size + 1, 0, none⟩ = some (.slice none 0 0) := Bo3.out.cell 0
    have xbof := Bo3.out.frozen 0
    have xp0 : W3.cell? ⟨w1.heap.size, 0, none⟩ = some (.int .i64 a) := Pb3.out.cell 0
    have xp1 : W3.cell? ⟨w1.heap.size, 1, none⟩ = some (.slice A1 d.length c1) := Pb3.out.cell 1
    obtain ⟨xc0, xc1, xc2, xc3, xc4⟩ := M3.out.cells
    have xsp := Pb3.out.lt
    have xsh := Bh3.out.lt
    have xso := Bo3.out.lt
    have xsg := M3.out.blk.lt
    go_wp2_with fail
    have y0 := Grew.cell xbh
    have y1 := Grew.cell xc1
    have y2 := Grew.cell xp0
    have y3 := Grew.cell xp1
    have y4 := Grew.cell xc0
    have y5 := Grew.cell xc2
    refine wp_region_grew (by kernel_rfl) (by kernel_rfl) ?_
    repeat (go_big_quiet_step (fail))
    refine wpQuiet_nil ?_
    intro W4 f4
    have F4 := Lib.hid (F3.out.trans f4 (by simp))
    have Bh4 := Lib.hid (Bh3.out.fr f4 (by simp))
    have Bo4 := Lib.hid (Bo3.out.fr f4 (by simp))
    have Pb4 := Lib.hid (Pb3.out.fr f4 (by simp))
    have M4 := Lib.hid (M3.out.fr f4 (by simp) (by simp) (by simp))
    have D4 := Lib.hid (own_fr D3.out f4 (by simp))
    clear y0 y1 y2 y3 y4 y5 xbh xbo xbof xp0 xp1 xc0 xc1 xc2 xc3 xc4 xsp xsh xso xsg f4
    have xbh : W4.cell? ⟨w.heap.size, 0, none⟩ = some (ptr g) := Bh4.out.cell 0
    have xbo : W4.cell? ⟨w.heap.size + 1, 0, none⟩ = some (.slice none 0 0) := Bo4.out.cell 0
    have xbof := Bo4.out.frozen 0
    have xp0 : W4.cell? ⟨w1.heap.size, 0, none⟩ = some (.int .i64 a) := Pb4.out.cell 0
    have xp1 : W4.cell? ⟨w1.heap.size, 1, none⟩ = some (.slice A1 d.length c1) := Pb4.out.cell 1
    obtain ⟨xc0, xc1, xc2, xc3, xc4⟩ := M4.out.cells
    have xsp := Pb4.out.lt
    have xsh := Bh4.out.lt
    have xso := Bo4.out.lt
    have xsg := M4.out.blk.lt
    go_wp2_with fail
    have y0 := Grew.cell xbh
    have y1 := Grew.cell xc1
    have y2 := Grew.cell xp0
    have y3 := Grew.cell xp1
    have y4 := Grew.cell xc0
    have y5 := Grew.cell xc2
    refine wp_region_grew (by kernel_rfl) (by kernel_rfl) ?_
    repeat (go_big_quiet_step (fail))
    refine wpQuiet_nil ?_
    intro W5 f5
    have F5 := Lib.hid (F4.out.trans f5 (by simp))
    have Bh5 := Lib.hid (Bh4.out.fr f5 (by simp))
    have Bo5 := Lib.hid (Bo4.out.fr f5 (by simp))
    have Pb5 := Lib.hid (Pb4.out.fr f5 (by simp))
    have M5 := Lib.hid (M4.out.fr f5 (by simp) (by simp) (by simp))
    have D5 := Lib.hid (own_fr D4.out f5 (by simp))
    clear y0 y1 y2 y3 y4 y5 xbh xbo xbof xp0 xp1 xc0 xc1 xc2 xc3 xc4 xsp xsh xso xsg f5
    have xbh : W5.cell? ⟨w.heap.size, 0, none⟩ = some (ptr g) := Bh5.out.cell 0
    have xbo : W5.cell? ⟨w.heap.size + 1, 0, none⟩ = some (.slice none 0 0) := Bo5.out.cell 0
    have xbof := Bo5.out.frozen 0
    have xp0 : W5.cell? ⟨w1.heap.size, 0, none⟩ = some (.int .i64 a) := Pb5.out.cell 0
    have xp1 : W5.cell? ⟨w1.heap.size, 1, none⟩ = some (.slice A1 d.length c1) := Pb5.out.cell 1
    obtain ⟨xc0, xc1, xc2, xc3, xc4⟩ := M5.out.cells
    have xsp := Pb5.out.lt
    have xsh := Bh5.out.lt
    have xso := Bo5.out.lt
    have xsg := M5.out.blk.lt
    have hf := first_put S W5 w1.heap.size a A1 d.length c1 xp0 xp1 kv L M5.out.kp (by have := M5.out.len; have := Hlen.out; omega)
    have hbl := best_longer a d.length (L.map (·.1))
    rw [List.length_map, ← M5.out.kept] at hbl
    rw [HANY.out] at hbl
    rw [← M5.out.kept] at hf
    have Hf := Lib.hid hf
    clear hf
    generalize bestV (longer a d.length) (fun _ _ => false) h.kept L.length = bb at *
    have hbb : bb < 0 := by simpa using hbl
    clear hbl
    go_wp2_with fail
    refine Hf.out.mono ?_
    rintro e W6 ⟨rfl, f6⟩
    have F6 := Lib.hid (F5.out.trans f6 (by simp))
    have Bh6 := Lib.hid (Bh5.out.fr f6 (by simp))
    have Bo6 := Lib.hid (Bo5.out.fr f6 (by simp))
    have Pb6 := Lib.hid (Pb5.out.fr f6 (by simp))
    have M6 := Lib.hid (M5.out.fr f6 (by simp) (by simp) (by simp))
    have D6 := Lib.hid (own_fr D5.out f6 (by simp))
    clear xbh xbo xbof xp0 xp1 xc0 xc1 xc2 xc3 xc4 xsp xsh xso xsg f6
    have xbh : W6.cell? ⟨w.heap.size, 0, none⟩ = some (ptr g) := Bh6.out.cell 0
    have xbo : W6.cell? ⟨w.heap.size + 1, 0, none⟩ = some (.slice none 0 0) := Bo6.out.cell 0
    have xbof := Bo6.out.frozen 0
    have xp0 : W6.cell? ⟨w1.heap.size, 0, none⟩ = some (.int .i64 a) := Pb6.out.cell 0
    have xp1 : W6.cell? ⟨w1.heap.size, 1, none⟩ = some (.slice A1 d.length c1) := Pb6.out.cell 1
    obtain ⟨xc0, xc1, xc2, xc3, xc4⟩ := M6.out.cells
    have xsp := Pb6.out.lt
    have xsh := Bh6.out.lt
    have xso := Bo6.out.lt
    have xsg := M6.out.blk.lt
    obtain ⟨KA, KC, rfl, _, _⟩ := M6.out.kp.form
    have h9 : h.most ≤ (L.length : Int) := by have := H8.out; rw [M6.out.len] at this; exact this
    go_wp2_with fail
    have y0 := Grew.cell xbh
    have y1 := Grew.cell xc1
    have y2 := Grew.cell xp0
    have y3 := Grew.cell xp1
    have y4 := Grew.cell xc0
    have y5 := Grew.cell xc2
    refine wp_region_grew (by kernel_rfl) (by kernel_rfl) ?_
    repeat (go_big_quiet_step (fail))
    refine wpQuiet_nil ?_
    intro W7 f7
    have F7 := Lib.hid (F6.out.trans f7 (by simp))
    have Bh7 := Lib.hid (Bh6.out.fr f7 (by simp))
    have Bo7 := Lib.hid (Bo6.out.fr f7 (by simp))
    have Pb7 := Lib.hid (Pb6.out.fr f7 (by simp))
    have M7 := Lib.hid (M6.out.fr f7 (by simp) (by simp) (by simp))
    have D7 := Lib.hid (own_fr D6.out f7 (by simp))
    clear y0 y1 y2 y3 y4 y5 xbh xbo xbof xp0 xp1 xc0 xc1 xc2 xc3 xc4 xsp xsh xso xsg f7
    have xbh : W7.cell? ⟨w.heap.size, 0, none⟩ = some (ptr g) := Bh7.out.cell 0
    have xbo : W7.cell? ⟨w.heap.size + 1, 0, none⟩ = some (.slice none 0 0) := Bo7.out.cell 0
    have xbof := Bo7.out.frozen 0
    have xp0 : W7.cell? ⟨w1.heap.size, 0, none⟩ = some (.int .i64 a) := Pb7.out.cell 0
    have xp1 : W7.cell? ⟨w1.heap.size, 1, none⟩ = some (.slice A1 d.length c1) := Pb7.out.cell 1
    obtain ⟨xc0, xc1, xc2, xc3, xc4⟩ := M7.out.cells
    have xsp := Pb7.out.lt
    have xsh := Bh7.out.lt
    have xso := Bo7.out.lt
    have xsg := M7.out.blk.lt
    go_wp2_with fail
    apply wp_goto
    refine fwd_goto _ _ ?_
    go_wp2
    rw [Exit.noGoto_ret]
    have hF : Fr [] w (W7.setCell ⟨w.heap.size + 1, 0, none⟩ (.slice none 0 0)) := F7.out.setCell (p := ⟨w.heap.size + 1, 0, none⟩) (.inr (by simp)) (.slice none 0 0)
    have hB := Bo7.out.set_ 0 (.slice none 0 0)
    have hres : World.cell? (W7.setCell ⟨w.heap.size + 1, 0, none⟩ (.slice none 0 0)) ⟨w.heap.size + 1, 0, none⟩ = some (.slice none 0 0) := (hB.cell 0).trans (by simp)
    clear hB
    generalize W7.setCell ⟨w.heap.size + 1, 0, none⟩ (.slice none 0 0) = Wf at *
    refine bodyPost_ret (v := .tuple #[.slice none 0 0, .int .i64 251]) (by simp [results, Try.results78, go_sem, hres]) rfl ?_
    exact put_same M.out hF _
end Go.Proofs.Ytmgdbbbdhkfdmaa

namespace Go.Proofs.Ytmgdbbbdhkfdmaa
set_option maxRecDepth 100000
open Go.RowKit Go.Deep Go.Shelf

set_option maxRecDepth 100000 in
set_option maxHeartbeats 2000000 in
theorem put_app {S : Nat → Prop} {w : World} {g : Nat} {kv : Value} {h : Hp} (m : HP S w g kv h) (a : Int) (dv : Value) (d : List Int) (T : Nat → Prop) (hd : Byt T w dv d) (hl : d.length ≤ 1000000) (h0 : 0 ≤ a) (h1 : a ≤ 4611686018427387904) (h2 : 1 ≤ d.length) (h3 : d.length ≤ 64) (h4 : past h.fin (a + d.length) = false) (h5 : h.next < a) (h6 : h.kept.any (longer a d.length) = false) (hlen : h.kept.length ≤ 64) (h8 : (h.kept.length : Int) < h.most) :
    Calls Try.prog 78 #[ptr g, .int .i64 a, dv] w (PutPost S w g kv { h with kept := h.kept ++ [⟨a, d⟩] } [] 0) := by
  have M := Lib.hid m
  obtain ⟨ev, L, m⟩ := m
  obtain ⟨A, c, rfl, hn, hcm⟩ := hd.form
  have c4 := m.cells.2.2.2.2
  have hg := m.blk.lt
  have hcl : ∀ W, Fr [] w W → Calls Try.prog 44 #[.slice A d.length c] W _ := fun W f => cloneB_any W (hd.fr f (by simp)) hl
  have Hcl := Lib.hid hcl
  have f0 : Fr [] w ((w.alloc (.cells #[ptr g] 37)).alloc (.cells #[.slice none 0 0] 25)) := ((Fr.refl _ _).alloc _).alloc _
  have bo := Blk.new (w.alloc (.cells #[ptr g] 37)) 25 #[.slice none 0 0]
  have bh := (Blk.new w 37 #[ptr g]).alloc (.cells #[.slice none 0 0] 25)
  have BO := Lib.hid bo
  have BH := Lib.hid bh
  have M0 := Lib.hid m
  clear hcl m hd bo bh
  have HP := Lib.hid h4
  have HANY := Lib.hid h6
  have h7 : (a == h.next) = false := by simp; omega
  have h7' : decide (a < h.next) = false := by simp; omega
  have H8 := Lib.hid h8
  clear h4 h6 h8
  have Hlen : Hid (h.kept.length ≤ 64) := hlen
  clear hlen
  go_enter Try.func78, Try.ntmps78
  go_wp2_with fail
  refine wp_scope_fwd 0 rfl ?_
  go_wp2_with fail
  refine (Hcl.out _ f0).mono ?_
  rintro e w1 ⟨A1, c1, rfl, own1, f1, fb1⟩
  have F1 : Fr [] w w1 := f0.trans f1 (by simp)
  have b4 := fr_cell F1 c4
  have bh1 := BH.out.fr f1 (by simp)
  have bo1 : Blk w1 (w.heap.size + 1) 25 #[.slice none 0 0] := by simpa using BO.out.fr f1 (by simp)
  have bh0 : w1.cell? ⟨w.heap.size, 0, none⟩ = some (ptr g) := bh1.cell 0
  have bo0 : w1.cell? ⟨w.heap.size + 1, 0, none⟩ = some (.slice none 0 0) := by simpa using bo1.cell 0
  have bof : w1.frozen? ⟨w.heap.size + 1, 0, none⟩ = false := by simpa using bo1.frozen 0
  have sz1 : w.heap.size + 1 < w1.heap.size := by have := f1.size; simp at this; omega
  have sz2 : w.heap.size < w1.heap.size := by omega
  have hg1 : g < w1.heap.size := by omega
  have HF1 := Lib.hid F1
  have HO1 := Lib.hid own1
  have HB1 := Lib.hid fb1
  have Bh1 := Lib.hid bh1
  have Bo1 := Lib.hid bo1
  clear f0 f1 F1 own1 fb1 c4 bh1 bo1
  go_upto_region 7 with (go_at_call 70; refine (none_hp ?_).mono ?_; (first | exact b4 | exact cell_al b4 _ | assumption); rintro e w' ⟨rfl, rfl⟩)
  have fp : Fr [] w1 (w1.alloc (bxp a (.slice A1 d.length c1))) := (Fr.refl _ _).alloc _
  have pb := Blk.new w1 120 #[.int .i64 a, .slice A1 d.length c1]
  have szp : w1.heap.size < (w1.alloc (bxp a (.slice A1 d.length c1))).heap.size := by simp
  generalize w1.alloc (bxp a (.slice A1 d.length c1)) = W1 at *
  have FP := Lib.hid fp
  have PB := Lib.hid pb
  clear fp pb bh0 bo0 bof b4 hn
  go_cut [47] (fun s47 wx => s47 = .bool (past h.fin (a + d.length)) ∧ Fr [] W1 wx)
  case first =>
    have qh := fr_cell FP.out (show w1.cell? ⟨w.heap.size, 0, none⟩ = some (ptr g) from Bh1.out.cell 0)
    have q3 := fr_cell (HF1.out.trans FP.out (by simp)) M0.out.cells.2.2.2.1
    have p0 := PB.out.cell 0
    have p1 := PB.out.cell 1
    have x0 := Grew.cell qh
    have x1 := Grew.cell q3
    have x2 := Grew.cell p0
    have x3 := Grew.cell p1
    have hbeh : ∀ p : Grew W1, Calls Try.prog 86 #[agp a (.slice A1 d.length c1)] p.W fun e w'' => e = .returned (.int .i64 (a + d.length)) ∧ ∃ q : Grew W1, w'' = q.W := fun p => grew_call (behind_fr a A1 d.length c1 _ h0 (by omega) (by omega))
    have HBH := Lib.hid hbeh
    have hfin := M0.out.fin
    clear qh q3 p0 p1 hbeh
    rcases hfin with ⟨e1, rfl⟩ | ⟨fa, fb, e1, rfl, e3, e4⟩
    · have e5 : past h.fin (a + d.length) = false := by unfold past; rw [e1]
      have E5 := Lib.hid e5
      clear e1 e5
      refine wp_region_grew (by kernel_rfl) (by kernel_rfl) ?_
      repeat (go_big_quiet_step ((go_at_call 86; exact HBH.out _)))
      refine wpQuiet_nil ?_
      intro W2 f2
      go_wp2_with fail
      go_meet
      exact ⟨by rw [E5.out], f2⟩
    · have e5 : past h.fin (a + d.length) = decide (fa < a + d.length) := by unfold past; rw [e1]
      have E5 := Lib.hid e5
      have x4 := Grew.cell (fr_cell (HF1.out.trans FP.out (by simp)) e4)
      clear e1 e5 e4
      refine wp_region_grew (by kernel_rfl) (by kernel_rfl) ?_
      repeat (go_big_quiet_step ((go_at_call 86; exact HBH.out _)))
      refine wpQuiet_nil ?_
      intro W2 f2
      go_wp2_with fail
      go_meet
      exact ⟨by rw [E5.out], f2⟩
  case rest =>
    obtain ⟨rfl, f2⟩ := hcut
    generalize wc = W2 at *
    have F2 := Lib.hid ((HF1.out.trans FP.out (by simp)).trans f2 (by simp))
    have Bh2 := Lib.hid (Bh1.out.fr (FP.out.trans f2 (by simp)) (by simp))
    have Bo2 := Lib.hid (Bo1.out.fr (FP.out.trans f2 (by simp)) (by simp))
    have Pb2 := Lib.hid (PB.out.fr f2 (by simp))
    have M2 := Lib.hid (M0.out.fr F2.out (by simp) (by simp) (by simp))
    have D2 := Lib.hid (own_fr HO1.out (FP.out.trans f2 (by simp)) (by simp))
    clear f2
    have xbh : W2.cell? ⟨w.heap.size, 0, none⟩ = some (ptr g) := Bh2.out.cell 0
    have xbo : W2.cell? ⟨w.heap.size + 1, 0, none⟩ = some (.slice none 0 0) := Bo2.out.cell 0
    have xbof := Bo2.out.frozen 0
    have xp0 : W2.cell? ⟨w1.heap.size, 0, none⟩ = some (.int .i64 a) := Pb2.out.cell 0
    have xp1 : W2.cell? ⟨w1.heap.size, 1, none⟩ = some (.slice A1 d.length c1) := Pb2.out.cell 1
    obtain ⟨xc0, xc1, xc2, xc3, xc4⟩ := M2.out.cells
    have xsp := Pb2.out.lt
    have xsh := Bh2.out.lt
    have xso := Bo2.out.lt
    have xsg := M2.out.blk.lt
    rw [HP.out]
    go_upto_region 8 with fail
    have y0 := Grew.cell xbh
    have y1 := Grew.cell xc1
    have y2 := Grew.cell xp0
    have y3 := Grew.cell xp1
    have y4 := Grew.cell xc0
    have y5 := Grew.cell xc2
    have hbeh : ∀ p : Grew W2, Calls Try.prog 86 #[agp a (.slice A1 d.length c1)] p.W fun e w'' => e = .returned (.int .i64 (a + d.length)) ∧ ∃ q : Grew W2, w'' = q.W := fun p => grew_call (behind_fr a A1 d.length c1 _ h0 (by omega) (by omega))
    have HBH := Lib.hid hbeh
    clear hbeh
    refine wp_region_grew (by kernel_rfl) (by kernel_rfl) ?_
    repeat (go_big_quiet_step ((go_at_call 86; exact HBH.out _)))
    refine wpQuiet_nil ?_
    intro W3 f3
    have F3 := Lib.hid (F2.out.trans f3 (by simp))
    have Bh3 := Lib.hid (Bh2.out.fr f3 (by simp))
    have Bo3 := Lib.hid (Bo2.out.fr f3 (by simp))
    have Pb3 := Lib.hid (Pb2.out.fr f3 (by simp))
    have M3 := Lib.hid (M2.out.fr f3 (by simp) (by simp) (by simp))
    have D3 := Lib.hid (own_fr D2.out f3 (by simp))
    clear y0 y1 y2 y3 y4 y5 xbh xbo xbof xp0 xp1 xc0 xc1 xc2 xc3 xc4 xsp xsh xso xsg f3
    have xbh : W3.cell? ⟨w.heap.size, 0, none⟩ = some (ptr g) := Bh3.out.cell 0
    have xbo : W3.cell? ⟨w.heap.size + 1, 0, none⟩ = some (.slice none 0 0) := Bo3.out.cell 0
    have xbof := Bo3.out.frozen 0
    have xp0 : W3.cell? ⟨w1.heap.size, 0, none⟩ = some (.int .i64 a) := Pb3.out.cell 0
    have xp1 : W3.cell? ⟨w1.heap.size, 1, none⟩ = some (.slice A1 d.length c1) := Pb3.out.cell 1
    obtain ⟨xc0, xc1, xc2, xc3, xc4⟩ := M3.out.cells
    have xsp := Pb3.out.lt
    have xsh := Bh3.out.lt
    have xso := Bo3.out.lt
    have xsg := M3.out.blk.lt
    go_wp2_with fail
    have y0 := Grew.cell xbh
    have y1 := Grew.cell xc1
    have y2 := Grew.cell xp0
    have y3 := Grew.cell xp1
    have y4 := Grew.cell xc0
    have y5 := Grew.cell xc2
    refine wp_region_grew (by kernel_rfl) (by kernel_rfl) ?_
    repeat (go_big_quiet_step (fail))
    refine wpQuiet_nil ?_
    intro W4 f4
    have F4 := Lib.hid (F3.out.trans f4 (by simp))
    have Bh4 := Lib.hid (Bh3.out.fr f4 (by simp))
    have Bo4 := Lib.hid (Bo3.out.fr f4 (by simp))
    have Pb4 := Lib.hid (Pb3.out.fr f4 (by simp))
    have M4 := Lib.hid (M3.out.fr f4 (by simp) (by simp) (by simp))
    have D4 := Lib.hid (own_fr D3.out f4 (by simp))
    clear y0 y1 y2 y3 y4 y5 xbh xbo xbof xp0 xp1 xc0 xc1 xc2 xc3 xc4 xsp xsh xso xsg f4
    have xbh : W4.cell? ⟨w.heap.size, 0, none⟩ = some (ptr g) := Bh4.out.cell 0
    have xbo : W4.cell? ⟨w.heap.size + 1, 0, none⟩ = some (.slice none 0 0) := Bo4.out.cell 0
    have xbof := Bo4.out.frozen 0
    have xp0 : W4.cell? ⟨w1.heap.size, 0, none⟩ = some (.int .i64 a) := Pb4.out.cell 0
    have xp1 : W4.cell? ⟨w1.heap.size, 1, none⟩ = some (.slice A1 d.length c1) := Pb4.out.cell 1
    obtain ⟨xc0, xc1, xc2, xc3, xc4⟩ := M4.out.cells
    have xsp := Pb4.out.lt
    have xsh := Bh4.out.lt
    have xso := Bo4.out.lt
    have xsg := M4.out.blk.lt
    go_wp2_with fail
    have y0 := Grew.cell xbh
    have y1 := Grew.cell xc1
    have y2 := Grew.cell xp0
    have y3 := Grew.cell xp1
    have y4 := Grew.cell xc0
    have y5 := Grew.cell xc2
    refine wp_region_grew (by kernel_rfl) (by kernel_rfl) ?_
    repeat (go_big_quiet_step (fail))
    refine wpQuiet_nil ?_
    intro W5 f5
    have F5 := Lib.hid (F4.out.trans f5 (by simp))
    have Bh5 := Lib.hid (Bh4.out.fr f5 (by simp))
    have Bo5 := Lib.hid (Bo4.out.fr f5 (by simp))
    have Pb5 := Lib.hid (Pb4.out.fr f5 (by simp))
    have M5 := Lib.hid (M4.out.fr f5 (by simp) (by simp) (by simp))
    have D5 := Lib.hid (own_fr D4.out f5 (by simp))
    clear y0 y1 y2 y3 y4 y5 xbh xbo xbof xp0 xp1 xc0 xc1 xc2 xc3 xc4 xsp xsh xso xsg f5
    have xbh : W5.cell? ⟨w.heap.size, 0, none⟩ = some (ptr g) := Bh5.out.cell 0
    have xbo : W5.cell? ⟨w.heap.size + 1, 0, none⟩ = some (.slice none 0 0) := Bo5.out.cell 0
    have xbof := Bo5.out.frozen 0
    have xp0 : W5.cell? ⟨w1.heap.size, 0, none⟩ = some (.int .i64 a) := Pb5.out.cell 0
    have xp1 : W5.cell? ⟨w1.heap.size, 1, none⟩ = some (.slice A1 d.length c1) := Pb5.out.cell 1
    obtain ⟨xc0, xc1, xc2, xc3, xc4⟩ := M5.out.cells
    have xsp := Pb5.out.lt
    have xsh := Bh5.out.lt
    have xso := Bo5.out.lt
    have xsg := M5.out.blk.lt
    have hf := first_put S W5 w1.heap.size a A1 d.length c1 xp0 xp1 kv L M5.out.kp (by have := M5.out.len; have := Hlen.out; omega)
    have hbl := best_longer a d.length (L.map (·.1))
    rw [List.length_map, ← M5.out.kept] at hbl
    rw [HANY.out] at hbl
    rw [← M5.out.kept] at hf
    have Hf := Lib.hid hf
    clear hf
    generalize bestV (longer a d.length) (fun _ _ => false) h.kept L.length = bb at *
    have hbb : bb < 0 := by simpa using hbl
    clear hbl
    go_wp2_with fail
    refine Hf.out.mono ?_
    rintro e W6 ⟨rfl, f6⟩
    have F6 := Lib.hid (F5.out.trans f6 (by simp))
    have Bh6 := Lib.hid (Bh5.out.fr f6 (by simp))
    have Bo6 := Lib.hid (Bo5.out.fr f6 (by simp))
    have Pb6 := Lib.hid (Pb5.out.fr f6 (by simp))
    have M6 := Lib.hid (M5.out.fr f6 (by simp) (by simp) (by simp))
    have D6 := Lib.hid (own_fr D5.out f6 (by simp))
    clear xbh xbo xbof xp0 xp1 xc0 xc1 xc2 xc3 xc4 xsp xsh xso xsg f6
    have xbh : W6.cell? ⟨w.heap.size, 0, none⟩ = some (ptr g) := Bh6.out.cell 0
    have xbo : W6.cell? ⟨w.heap.size + 1, 0, none⟩ = some (.slice none 0 0) := Bo6.out.cell 0
    have xbof := Bo6.out.frozen 0
    have xp0 : W6.cell? ⟨w1.heap.size, 0, none⟩ = some (.int .i64 a) := Pb6.out.cell 0
    have xp1 : W6.cell? ⟨w1.heap.size, 1, none⟩ = some (.slice A1 d.length c1) := Pb6.out.cell 1
    obtain ⟨xc0, xc1, xc2, xc3, xc4⟩ := M6.out.cells
    have xsp := Pb6.out.lt
    have xsh := Bh6.out.lt
    have xso := Bo6.out.lt
    have xsg := M6.out.blk.lt
    obtain ⟨KA, KC, rfl, _, _⟩ := M6.out.kp.form
    have h9 : (L.length : Int) < h.most := by have := H8.out; rw [M6.out.len] at this; exact this
    go_wp2_with fail
    have y0 := Grew.cell xbh
    have y1 := Grew.cell xc1
    have y2 := Grew.cell xp0
    have y3 := Grew.cell xp1
    have y4 := Grew.cell xc0
    have y5 := Grew.cell xc2
    refine wp_region_grew (by kernel_rfl) (by kernel_rfl) ?_
    repeat (go_big_quiet_step (fail))
    refine wpQuiet_nil ?_
    intro W7 f7
    have F7 := Lib.hid (F6.out.trans f7 (by simp))
    have Bh7 := Lib.hid (Bh6.out.fr f7 (by simp))
    have Bo7 := Lib.hid (Bo6.out.fr f7 (by simp))
    have Pb7 := Lib.hid (Pb6.out.fr f7 (by simp))
    have M7 := Lib.hid (M6.out.fr f7 (by simp) (by simp) (by simp))
    have D7 := Lib.hid (own_fr D6.out f7 (by simp))
    clear y0 y1 y2 y3 y4 y5 xbh xbo xbof xp0 xp1 xc0 xc1 xc2 xc3 xc4 xsp xsh xso xsg f7
    have xbh : W7.cell? ⟨w.heap.size, 0, none⟩ = some (ptr g) := Bh7.out.cell 0
    have xbo : W7.cell? ⟨w.heap.size + 1, 0, none⟩ = some (.slice none 0 0) := Bo7.out.cell 0
    have xbof := Bo7.out.frozen 0
    have xp0 : W7.cell? ⟨w1.heap.size, 0, none⟩ = some (.int .i64 a) := Pb7.out.cell 0
    have xp1 : W7.cell? ⟨w1.heap.size, 1, none⟩ = some (.slice A1 d.length c1) := Pb7.out.cell 1
    obtain ⟨xc0, xc1, xc2, xc3, xc4⟩ := M7.out.cells
    have xsp := Pb7.out.lt
    have xsh := Bh7.out.lt
    have xso := Bo7.out.lt
    have xsg := M7.out.blk.lt
    go_wp2_with fail
    obtain ⟨i0, hi, hz0, hz1, hz2⟩ := info_parts info_pc
    have hf7 : Fr [] W7 (W7.drew.alloc (bxp a (.slice A1 d.length c1))) := (Fr.refl [] W7).drew.alloc _
    have hsrc : Sl (fun _ => True) (W7.drew.alloc (bxp a (.slice A1 d.length c1))) 2 (.slice (some ⟨W7.heap.size, 0, none⟩) 1 1) 1 [.int .i64 a, .slice A1 d.length c1] := Sl.of_own (World.ownsRow_lit (base := 0) (e := 120) (size := 2) W7.drew #[.int .i64 a, .slice A1 d.length c1] 1 (Nat.zero_le _) (by unfold maxLen; omega) rfl) (fun _ _ => trivial)
    have Hown := Lib.hid (own_fr M7.out.kp.own hf7 (by simp))
    have Hsrc := Lib.hid hsrc
    have Hap := Lib.hid (app_facts M7.out Bh7.out Bo7.out D7.out)
    have hlm : L.length + 1 ≤ maxLen := by have := Hlen.out; have := M7.out.len; unfold maxLen; omega
    have hlb : (L.length + 1) * 32 ≤ 140737488355328 := by have := Hlen.out; have := M7.out.len; omega
    have Hlm := Lib.hid hlm
    have Hlb := Lib.hid hlb
    have Hf7 := Lib.hid hf7
    have one2 : ∀ u ∈ ([.int .i64 a, .slice A1 d.length c1] : List Value), u.oneCell' = true := by intro u hu; simp at hu; rcases hu with rfl | rfl <;> rfl
    clear hsrc hf7 hlm hlb
    refine cut_fr ?F (AppRel W7 g ev KA KC L.length h (pcs L ++ [.int .i64 a, .slice A1 d.length c1]) (w.heap.size + 1) A1 c1 d) ?first ?rest
    case first =>
      intro K hK
      go_region_law ((refine step_append_sl _ (by rfl) (.tmp 83) (.tmp 85) 112 (by rfl) 120 i0 (.agg #[.int .i64 0, .slice none 0 0]) 2 32 Try.underlying112 hi hz0 hz1 hz2 (by rfl) (by decide) (.slice KA L.length KC) L.length (pcs L) (by rfl) Hown.out (fun _ => True) (.slice (some ⟨W7.heap.size, 0, none⟩) 1 1) 1 [.int .i64 a, .slice A1 d.length c1] (by rfl) Hsrc.out one2 Hlm.out Hlb.out (L.length + 1) (by rfl) ?_; intro KA' KC' W8 h10 h11 h12; have H10 := Lib.hid h10; have H11 := Lib.hid h11; have H12 := Lib.hid h12; obtain ⟨q1, q2, q3, q4, hx⟩ := Hap.out _ _ Hf7.out h11; have HX := Lib.hid hx; clear h10 h11 h12 hx))
      all_goals (refine hK _ _ _ ⟨_, rfl, H10.out, HX.out.1, HX.out.2.1, HX.out.2.2.1, HX.out.2.2.2.1, fun b hb => (H12.out b hb).imp id (fun hh => ⟨by have := hh.1; simp at this; omega, hh.2⟩)⟩)
    case rest =>
      rintro KA' KC' _ ⟨W8, rfl, k1, k2, k3, k4, k5, k6⟩
      have e1 := blk_ne k3 k2 (by decide)
      have fs := (Fr.refl [g] W8).setCell (p := ⟨g, 2, none⟩) (.inl (by simp)) (.slice KA' (L.length + 1) KC')
      have hb9 : Blk (W8.setCell ⟨g, 2, none⟩ (.slice KA' (L.length + 1) KC')) g 115 #[.int .i64 h.most, .int .i64 h.next, .slice KA' (L.length + 1) KC', ev, .bool true] := by simpa using k2.set_ 2 (.slice KA' (L.length + 1) KC')
      have bo9 := k3.fr fs (by simpa using e1)
      have k9 := own_fr k1 fs (fun b hb' => by simp; rintro rfl; exact own_ne k1 k2 (by decide) hb')
      have d9 := own_fr k4 fs (fun b hb' => by simp; rintro rfl; exact own_ne k4 k2 (by decide) hb')
      have F9 : Fr (g :: ob (.slice KA L.length KC)) w (W8.setCell ⟨g, 2, none⟩ (.slice KA' (L.length + 1) KC')) := ((F7.out.mono (by simp)).trans (k5.mono (fun x hx => List.mem_cons_of_mem g hx)) (fun x hx => .inl hx)).trans fs (by intro x hx; simp at hx; subst hx; exact .inl (by simp))
      have xbo9 := bo9.cell 0
      have xbof9 := bo9.frozen 0
      have xso9 := bo9.lt
      have s8 : w.heap.size ≤ W7.heap.size := F7.out.size
      have k6' : ∀ b, (Value.slice KA' (L.length + 1) KC').ownBlock = some b → (Value.slice KA L.length KC).ownBlock = some b ∨ w.heap.size ≤ b := fun b hb' => (k6 b hb').imp id (fun hh => by omega)
      generalize W8.setCell ⟨g, 2, none⟩ (.slice KA' (L.length + 1) KC') = W9 at *
      have Hb9 := Lib.hid hb9
      have Bo9 := Lib.hid bo9
      have K9 := Lib.hid k9
      have D9 := Lib.hid d9
      have HF9 := Lib.hid F9
      have K6 := Lib.hid k6'
      clear k1 k2 k3 k4 k5 k6 k6' hb9 bo9 k9 d9 F9 fs s8
      go_wp2_with fail
      have ft := (Fr.refl [w.heap.size + 1] W9).setCell (p := ⟨w.heap.size + 1, 0, none⟩) (.inl (by simp)) (.slice none 0 0)
      have hB := Bo9.out.set_ 0 (.slice none 0 0)
      have hres : World.cell? (W9.setCell ⟨w.heap.size + 1, 0, none⟩ (.slice none 0 0)) ⟨w.heap.size + 1, 0, none⟩ = some (.slice none 0 0) := (hB.cell 0).trans (by simp)
      have hbf := Hb9.out.fr ft (by simpa using e1.symm)
      have kf := own_fr K9.out ft (fun b hb' => by simp; rintro rfl; exact own_ne K9.out Bo9.out (by decide) hb')
      have df := own_fr D9.out ft (fun b hb' => by simp; rintro rfl; exact own_ne D9.out Bo9.out (by decide) hb')
      have Ff := HF9.out.trans ft (by intro x hx; simp at hx; subst hx; exact .inr (by omega))
      clear hB ft
      generalize W9.setCell ⟨w.heap.size + 1, 0, none⟩ (.slice none 0 0) = Wf at *
      refine bodyPost_ret (v := .tuple #[.slice none 0 0, .int .i64 0]) (by simp [results, Try.results78, go_sem, hres]) rfl ?_
      exact app_post M0.out kf df hbf Ff (fun b hb' => by have := HB1.out b hb'; simp at this; omega) K6.out
end Go.Proofs.Ytmgdbbbdhkfdmaa
