import Derived.Test.YtmgdbbbdhkfdmaaZ17
import Derived.Deep.DeepCutAuto
import Derived.Test.YtmgdbbbdhkfdmaaZ14
set_option linter.unusedSimpArgs false
set_option linter.unusedVariables false
/-
  What again tells.
-/
namespace Go.Proofs.Ytmgdbbbdhkfdmaa
set_option maxRecDepth 100000
open Go.RowKit Go.Deep

def AgPost (S : Nat → Prop) (w : World) (H : Hd) (x' : St) (p : Prt) (e : Ending) (w' : World) : Prop :=
  ∃ S' A c, e = .returned (agP p (.slice A p.d.length c)) ∧ Ext w S S' ∧ Byt S' w' (.slice A p.d.length c) p.d ∧ SI S' w' H x' ∧ Fr [H.g, H.gw] w w'
theorem SI.head {S : Nat → Prop} {w : World} {H : Hd} {x : St} (m : SI S w H x) {n : Nat} (h0 : 0 ≤ x.win.a) (h1 : 0 < n) (h2 : x.win.a + n ≤ x.all.length) :
    ∃ b c, H.bv = .slice (some ⟨b, 0, none⟩) (bufV x).length c ∧ n ≤ (bufV x).length ∧ (bufV x).length ≤ c ∧ c ≤ maxLen ∧ Byt (fun y => y ∈ ob H.bv) w (.slice (some ⟨b, 0, none⟩) n c) ((x.all.drop x.win.a.toNat).take n) := by
  have hl : (bufV x).length = x.all.length - x.win.a.toNat := by unfold bufV; rw [List.length_drop]
  have hb : Byt (fun y => y ∈ ob H.bv) w H.bv (bufV x) := Sl.of_own m.buf (fun b hb => mem_ob.2 hb)
  rcases m.buf.2 with ⟨e, h⟩ | ⟨g, cap, cur, e, _, hg, h3, h4, _⟩
  · omega
  · refine ⟨g, cap, e, by omega, h3, h4, ?_⟩
    rw [e] at hb ⊢
    exact hb.take (k := n) (by omega)
/-- A part is laid into the result's block. -/
theorem again_end {S S5 : Nat → Prop} {w W0 w5 : World} {H : Hd} {x x' : St} {p : Prt} {A : Option Addr} {c : Nat} (m : SI S w H x) (f0 : Fr [] w W0) (hr : w.heap.size < W0.heap.size) (x5 : Ext W0 S S5) (by5 : Byt S5 w5 (.slice A p.d.length c) p.d) (m5 : SI S5 w5 H x') (f5 : Fr [H.g, H.gw] W0 w5)
    (hb : Blk W0 w.heap.size 27 prt0) :
    AgPost S w H x' p (.returned (agP p (.slice A p.d.length c))) (((((w5.setCell ⟨w.heap.size, 0, none⟩ (.int .i64 p.flags)).setCell ⟨w.heap.size, 1, none⟩ (.int .u32 p.seq)).setCell ⟨w.heap.size, 2, none⟩ (.int .u32 p.ack)).setCell ⟨w.heap.size, 3, none⟩ (.int .u16 p.win)).setCell ⟨w.heap.size, 4, none⟩ (.slice A p.d.length c)) ∧
    Blk (((((w5.setCell ⟨w.heap.size, 0, none⟩ (.int .i64 p.flags)).setCell ⟨w.heap.size, 1, none⟩ (.int .u32 p.seq)).setCell ⟨w.heap.size, 2, none⟩ (.int .u32 p.ack)).setCell ⟨w.heap.size, 3, none⟩ (.int .u16 p.win)).setCell ⟨w.heap.size, 4, none⟩ (.slice A p.d.length c)) w.heap.size 27 #[.int .i64 p.flags, .int .u32 p.seq, .int .u32 p.ack, .int .u16 p.win, .slice A p.d.length c] := by
  have hne : ∀ y ∈ H.own, y ≠ w.heap.size := fun y hy => by have := m.lt y hy; omega
  have b5 : Blk w5 w.heap.size 27 prt0 := hb.fr f5 (by simp; exact ⟨fun e => hne H.g (by simp [Hd.own]) e.symm, fun e => hne H.gw (by simp [Hd.own]) e.symm⟩)
  have hnS : ¬ S5 w.heap.size := fun hs => by
    rcases x5.2 _ hs with h | h
    · have := HP.pub' m.hp _ h; omega
    · omega
  have f6 := fr5 (b := w.heap.size) (Fr.refl [w.heap.size] w5) (.inl (by simp)) (.int .i64 p.flags) (.int .u32 p.seq) (.int .u32 p.ack) (.int .u16 p.win) (.slice A p.d.length c)
  exact ⟨⟨S5, A, c, rfl, ext_up x5 f0.size, by5.fr f6 (fun y hy => by simp at hy; subst hy; exact hnS), m5.far f6 hnS hne, ((f0.mono (by simp)).trans f5 (fun y hy => .inl hy)).trans f6 (fun y hy => .inr (by simp at hy; omega))⟩, set5 b5 _ _ _ _ _⟩
theorem againV_beg (x : St) (h : x.at_ ≠ 4) : againV x = (shows x, beginsV x) := by unfold againV; rw [if_pos h]
theorem againV_data (x : St) (h : x.at_ = 4) (n : Int) (hn : n = min 64 (x.win.m - x.win.a)) (hp : 0 < n) : againV x = (shows x, partV x 2 x.win.a ((x.all.drop x.win.a.toNat).take n.toNat)) := by
  subst hn; unfold againV; rw [if_neg (by simp [h]), if_pos hp]
theorem againV_fin (x : St) (h : x.at_ = 4) (n : Int) (hn : n = min 64 (x.win.m - x.win.a)) (hp : ¬ 0 < n) (hf : x.fin = true) : againV x = (shows x, partV x 6 x.all.length []) := by
  subst hn; unfold againV; rw [if_neg (by simp [h]), if_neg hp, if_pos hf]
theorem againV_probe (x : St) (h : x.at_ = 4) (n : Int) (hn : n = min 64 (x.win.m - x.win.a)) (hp : ¬ 0 < n) (hf : x.fin = false) :
    againV x = (shows { x with win := (Win.probeV x.win).1 }, partV { x with win := (Win.probeV x.win).1 } 2 (Win.probeV x.win).2.1 ((x.all.drop x.win.a.toNat).take 1)) := by
  subst hn; unfold againV; rw [if_neg (by simp [h]), if_neg hp, if_neg (by simp [hf])]
set_option maxHeartbeats 8000000 in
theorem again_si {S : Nat → Prop} {w : World} {H : Hd} {x : St} (m : SI S w H x) (ok : Ok x) (hw : waitsV x = true) :
    Calls Try.prog 32 #[ptr H.g] w (AgPost S w H (againV x).1 (againV x).2) := by
  have v0 := againV_beg x
  have v1 := againV_data x
  have v2 := againV_fin x
  have v3 := againV_probe x
  have hpr := again_probe ok hw
  have hgl := m.blk.lt
  have f0 : Fr [] w (w.alloc (.cells prt0 27)) := (Fr.refl [] w).alloc _
  have b0 : Blk (w.alloc (.cells prt0 27)) w.heap.size 27 prt0 := Blk.new w _ _
  have hr : w.heap.size < (w.alloc (.cells prt0 27)).heap.size := by simp
  have m0 := m.fr f0
  generalize againV x = r at *
  have hwb := Win.Inv.bd ok.s.hw
  have hml := ok.s.hm
  have hal := ok.s.hl
  have M := Lib.hid m
  have OK := Lib.hid ok
  have V0 := Lib.hid v0
  have V1 := Lib.hid v1
  have V2 := Lib.hid v2
  have V3 := Lib.hid v3
  have HPR := Lib.hid hpr
  have HWB := Lib.hid hwb
  have HML := Lib.hid hml
  have HAL := Lib.hid hal
  clear m ok v0 v1 v2 v3 hpr hwb hml hal
  go_enter Try.func32, Try.ntmps32
  go_upto_region 1 with fail
  generalize w.alloc (.cells prt0 27) = w0 at *
  have c16 := (scells m0.blk).c16
  have M0 := Lib.hid m0
  have F0 := Lib.hid f0
  have B0 := Lib.hid b0
  have HRr := Lib.hid hr
  clear m0 f0 b0 hr
  go_wp2_with fail
  refine (Win.state_win H.gw x.win w0 M0.out.win).mono ?_
  rintro e w1 ⟨rfl, f1⟩
  go_upto_region 2 with fail
  have f2 : Fr [] w0 (w1.alloc (.cells #[.int .i64 x.win.a, .int .i64 x.win.s, .int .i64 x.win.m, .int .i64 x.win.l] 32)) := f1.alloc _
  have b2 := Blk.new w1 32 #[.int .i64 x.win.a, .int .i64 x.win.s, .int .i64 x.win.m, .int .i64 x.win.l]
  generalize w1.alloc (.cells #[.int .i64 x.win.a, .int .i64 x.win.s, .int .i64 x.win.m, .int .i64 x.win.l] 32) = w2 at *
  have p0 : w2.cell? ⟨w1.heap.size, 0, none⟩ = some (.int .i64 x.win.a) := by simpa using b2.cell 0
  have p2 : w2.cell? ⟨w1.heap.size, 2, none⟩ = some (.int .i64 x.win.m) := by simpa using b2.cell 2
  have hsub : IntKind.i64.wrap (x.win.m - x.win.a) = x.win.m - x.win.a := IntWalk.i64_in _ (by have := HWB.out; have := HML.out; have := HAL.out; omega)
  have m2 := M0.out.fr f2
  have cs := scells m2.blk
  have c0 := cs.c0
  have c7 := cs.c7
  have c14 := cs.c14
  have c16 := cs.c16
  have c19 := cs.c19
  have F2 := Lib.hid (F0.out.trans f2 (by simp))
  have B2 := Lib.hid (B0.out.fr f2 (by simp))
  have HR2 : Hid (w.heap.size < w2.heap.size) := Lib.hid (Nat.lt_of_lt_of_le HRr.out f2.size)
  have M2 := Lib.hid m2
  clear f1 f2 b2 m2 cs
  generalize hb1 : w1.heap.size = b1 at *
  clear hb1
  have HG2 : Hid (w.heap.size ∉ [H.g, H.gw]) := Lib.hid (by have h1 := M.out.lt H.g (by simp [Hd.own]); have h2 := M.out.lt H.gw (by simp [Hd.own]); simp; omega)
  obtain ⟨y0, y1, y2, y3, y4⟩ := cells5 B2.out
  obtain ⟨z0, z1, z2, z3, z4⟩ := free5 B2.out
  have hbd : min 64 (x.win.m - x.win.a) ≤ 64 ∧ min 64 (x.win.m - x.win.a) ≤ x.win.m - x.win.a := by omega
  by_cases h4 : x.at_ = 4
  · rw [h4] at c0
    have HH4 := Lib.hid h4
    go_upto_region 5 with fail
    have hn : min 64 (x.win.m - x.win.a) = min 64 (x.win.m - x.win.a) := rfl
    generalize hnn : min 64 (x.win.m - x.win.a) = n at *
    have HNN := Lib.hid hnn.symm
    clear hnn hn h4
    by_cases hpos : 0 < n
    · have hd0 : decide (0 < n) = true := by simpa using hpos
      have hd1 : decide (n > 0) = true := by simpa using hpos
      have hv := V1.out HH4.out n rfl hpos
      obtain ⟨nn, rfl⟩ : ∃ nn : Nat, n = nn := ⟨n.toNat, by omega⟩
      have hnn : ((nn : Int)).toNat = nn := by omega
      rw [hnn] at hv
      obtain ⟨b, bc, hbv, q1, q2, q3, hby⟩ := M2.out.head (n := nn) HWB.out.1 (by omega) (by have := HML.out; omega)
      rw [hbv] at c14
      unfold maxLen at q3
      have hpt : Calls Try.prog 33 #[ptr H.g, .int .i64 0, .int .i64 x.win.a, .slice (some ⟨b, 0, none⟩) nn bc] w2.drew (PartPost S w2.drew H (shows x) (partV x 2 x.win.a ((x.all.drop x.win.a.toNat).take nn))) :=
        part_si (M2.out.fr (Fr.refl [] w2).drew) OK.out.s.hi (by have := OK.out.s.hu; omega) 0 x.win.a (.inl rfl) HWB.out.1 (by have := HWB.out; have := HML.out; have := HAL.out; omega) _ _ _ (hby.fr (Fr.refl [] w2).drew (by simp)) (fun z hz => by rintro rfl; exact M2.out.ne_b _ hz rfl) (by simp; omega)
      generalize partV x 2 x.win.a ((x.all.drop x.win.a.toNat).take nn) = p at *
      have HPT := Lib.hid hpt
      have HV := Lib.hid hv
      have s4 : (0 : Int) ≤ (nn : Int) := by omega
      have s6 : (nn : Int) ≤ (bc : Int) := by omega
      clear hpt hv hby hbd
      go_upto_region 6 with fail
      go_still_tail 9, (by kernel_rfl)
      change wpList Try.prog _ _ _ _ w2.drew
      go_wp2_with fail
      refine HPT.out.mono ?_
      rintro e w3 ⟨S3, A3, c3, rfl, x3, by3, m3, f3⟩
      have f3w : Fr [H.g, H.gw] w2 w3 := ((Fr.refl [H.g] w2).drew.trans f3 (fun y hy => .inl hy)).mono (by simp)
      have x3 : Ext w2 S S3 := x3
      clear f3
      have b3 := B2.out.fr f3w HG2.out
      have hend := again_end (p := p) M.out F2.out HR2.out x3 by3 m3 f3w B2.out
      obtain ⟨y0, y1, y2, y3, y4⟩ := cells5 b3
      obtain ⟨z0, z1, z2, z3, z4⟩ := free5 b3
      obtain ⟨r0, r1, r2, r3, r4⟩ := cells5 hend.2
      have HE := Lib.hid hend.1
      clear hend x3 by3 m3 f3w b3
      go_wp2_with fail
      refine bodyPost_ret (v := .agg #[.int .i64 p.flags, .int .u32 p.seq, .int .u32 p.ack, .int .u16 p.win, .slice A3 p.d.length c3]) (by simp [results, Try.results32, go_sem, r0, r1, r2, r3, r4]) rfl ?_
      rw [HV.out]
      exact HE.out
    · have hd0 : decide (0 < n) = false := by simpa using hpos
      have hd1 : decide (n > 0) = false := by simpa using hpos
      rcases Bool.eq_false_or_eq_true x.fin with hfi | hfi
      all_goals rw [hfi] at c19
      · have hpt : Calls Try.prog 33 #[ptr H.g, .int .i64 4, .int .i64 x.all.length, .slice none 0 0] w2 (PartPost S w2 H (shows x) (partV x 6 x.all.length [])) := part_si M2.out OK.out.s.hi (by have := OK.out.s.hu; omega) 4 x.all.length (.inr (.inl rfl)) (by omega) (by have := HAL.out; omega) _ [] (fun _ => False) Byt.nil (by simp) (by simp)
        have hv := V2.out HH4.out n rfl (by omega) hfi
        generalize partV x 6 x.all.length [] = p at *
        have HPT := Lib.hid hpt
        have HV := Lib.hid hv
        clear hpt hv
        go_wp2_with fail
        refine HPT.out.mono ?_
        rintro e w3 ⟨S3, A3, c3, rfl, x3, by3, m3, f3⟩
        have f3w := f3.mono (O' := [H.g, H.gw]) (by simp)
        clear f3
        have b3 := B2.out.fr f3w HG2.out
        have hend := again_end (p := p) M.out F2.out HR2.out x3 by3 m3 f3w B2.out
        obtain ⟨y0, y1, y2, y3, y4⟩ := cells5 b3
        obtain ⟨z0, z1, z2, z3, z4⟩ := free5 b3
        obtain ⟨r0, r1, r2, r3, r4⟩ := cells5 hend.2
        have HE := Lib.hid hend.1
        clear hend x3 by3 m3 f3w b3
        go_wp2_with fail
        refine bodyPost_ret (v := .agg #[.int .i64 p.flags, .int .u32 p.seq, .int .u32 p.ack, .int .u16 p.win, .slice A3 p.d.length c3]) (by simp [results, Try.results32, go_sem, r0, r1, r2, r3, r4]) rfl ?_
        rw [HV.out]
        exact HE.out
      · have hprb := HPR.out HH4.out (by omega) hfi
        have hv := V3.out HH4.out n rfl (by omega) hfi
        have hpw := Win.probe_win H.gw x.win w2 1000000000 (Int.le_refl _) OK.out.s.hw M2.out.win
        obtain ⟨hz, hza⟩ := hprb
        have hpv : Win.probeV x.win = (⟨x.win.a, x.win.s, max x.win.m (x.win.a + 1), x.win.l⟩, x.win.a, 0) := by unfold Win.probeV; rw [if_pos hz]
        rw [hpv] at hpw
        have HPW := Lib.hid hpw
        obtain ⟨b, bc, hbv, q1, q2, q3, hby⟩ := M2.out.head (n := 1) HWB.out.1 (by omega) (by omega)
        rw [hbv] at c14
        unfold maxLen at q3
        have HBV := Lib.hid hbv
        have HBY := Lib.hid hby
        rw [hpv] at hv
        dsimp only at hv
        generalize hx' : ({ x with win := ⟨x.win.a, x.win.s, max x.win.m (x.win.a + 1), x.win.l⟩ } : St) = x' at *
        have HX := Lib.hid hx'
        generalize hpp : partV x' 2 x.win.a ((x.all.drop x.win.a.toNat).take 1) = p at *
        have HPP := Lib.hid hpp
        have HV := Lib.hid hv
        have s6 : (1 : Int) ≤ (bc : Int) := by omega
        have HZA := Lib.hid hza
        clear hpv hpw hbv hby hv hbd hz hx' hpp hza
        go_wp2_with fail
        refine HPW.out.mono ?_
        rintro e w3 ⟨rfl, f3, W3⟩
        have m3 := M2.out.setw f3 W3 rfl
        have c14' : w3.cell? ⟨H.g, 14, none⟩ = some (.slice (some ⟨b, 0, none⟩) (bufV x).length bc) := by rw [← HBV.out]; exact (scells m3.blk).c14
        have hlt3 := m3.blk.lt
        rw [HX.out] at m3
        have F3 := Lib.hid f3
        have hpt : Calls Try.prog 33 #[ptr H.g, .int .i64 0, .int .i64 x.win.a, .slice (some ⟨b, 0, none⟩) 1 bc] w3 (PartPost S w3 H (shows x') p) := by
          have h := part_si m3 (by rw [← HX.out]; exact OK.out.s.hi) (by rw [← HX.out]; have := OK.out.s.hu; show x.unread.length ≤ 100000; omega) 0 x.win.a (.inl rfl) HWB.out.1 (by have := HWB.out; have := HML.out; have := HAL.out; omega) _ _ _ (HBY.out.fr f3 (fun z hz hm => by simp at hz; subst hz; exact own_ne M2.out.buf M2.out.win (by decide) (mem_ob.1 hm))) (fun z hz => by rintro rfl; exact M2.out.ne_b _ hz rfl) (by simp; omega)
          rw [← HPP.out]
          exact h
        have HPT := Lib.hid hpt
        clear hpt m3 f3 W3 c14
        go_wp2_with fail
        refine HPT.out.mono ?_
        rintro e w4 ⟨S3, A3, c3, rfl, x3, by3, m3, f3⟩
        have f3w : Fr [H.g, H.gw] w2 w4 := (F3.out.mono (by simp)).trans (f3.mono (O' := [H.g, H.gw]) (by simp)) (fun y hy => .inl hy)
        have x3 := ext_up x3 F3.out.size
        clear f3
        have b3 := B2.out.fr f3w HG2.out
        have hend := again_end (p := p) M.out F2.out HR2.out x3 by3 m3 f3w B2.out
        obtain ⟨y0, y1, y2, y3, y4⟩ := cells5 b3
        obtain ⟨z0, z1, z2, z3, z4⟩ := free5 b3
        obtain ⟨r0, r1, r2, r3, r4⟩ := cells5 hend.2
        have HE := Lib.hid hend.1
        clear hend x3 by3 m3 f3w b3
        go_wp2_with fail
        refine bodyPost_ret (v := .agg #[.int .i64 p.flags, .int .u32 p.seq, .int .u32 p.ack, .int .u16 p.win, .slice A3 p.d.length c3]) (by simp [results, Try.results32, go_sem, r0, r1, r2, r3, r4]) rfl ?_
        rw [HV.out]
        exact HE.out
  · have hd : decide (x.at_ = 4) = false := by simpa using h4
    have hq : (x.at_ == 4) = false := by simpa using h4
    have hnq : (x.at_ != 4) = true := by simpa using h4
    have hbg := begins_si M2.out OK.out.s.hi (by have := OK.out.s.hu; omega)
    have HV := Lib.hid (V0.out h4)
    generalize beginsV x = p at *
    go_wp2_with fail
    refine hbg.mono ?_
    rintro e w3 ⟨S3, A3, c3, rfl, x3, by3, m3, f3⟩
    have f3w := f3.mono (O' := [H.g, H.gw]) (by simp)
    clear f3 hbg hbd
    have b3 := B2.out.fr f3w HG2.out
    have hend := again_end (p := p) M.out F2.out HR2.out x3 by3 m3 f3w B2.out
    obtain ⟨y0, y1, y2, y3, y4⟩ := cells5 b3
    obtain ⟨z0, z1, z2, z3, z4⟩ := free5 b3
    obtain ⟨r0, r1, r2, r3, r4⟩ := cells5 hend.2
    have HE := Lib.hid hend.1
    clear hend x3 by3 m3 f3w b3
    go_wp2_with fail
    refine bodyPost_ret (v := .agg #[.int .i64 p.flags, .int .u32 p.seq, .int .u32 p.ack, .int .u16 p.win, .slice A3 p.d.length c3]) (by simp [results, Try.results32, go_sem, r0, r1, r2, r3, r4]) rfl ?_
    rw [HV.out]
    exact HE.out
end Go.Proofs.Ytmgdbbbdhkfdmaa

/-
  What Tick does.
-/
namespace Go.Proofs.Ytmgdbbbdhkfdmaa
set_option maxRecDepth 100000
open Go.RowKit Go.Deep

theorem tickV_not (x : St) (h : Rto.dueV x.clk (x.now + 1) = false) : tickV x = ({ x with now := x.now + 1 }, []) := by unfold tickV; dsimp only; rw [if_neg (by simp [h])]
theorem tickV_more (x : St) (h : Rto.dueV x.clk (x.now + 1) = true) (hm : (Rto.lateV x.clk (x.now + 1)).2.1 = true) :
    tickV x = (restsV (againV { x with now := x.now + 1, clk := (Rto.lateV x.clk (x.now + 1)).1, timed := 0 }).1, [(againV { x with now := x.now + 1, clk := (Rto.lateV x.clk (x.now + 1)).1, timed := 0 }).2]) := by
  unfold tickV; dsimp only; rw [if_pos h, if_pos hm]
theorem tickV_end (x : St) (h : Rto.dueV x.clk (x.now + 1) = true) (hm : (Rto.lateV x.clk (x.now + 1)).2.1 = false) :
    tickV x = (restsV (doneV { x with now := x.now + 1, clk := (Rto.lateV x.clk (x.now + 1)).1 } true), []) := by
  unfold tickV; dsimp only; rw [if_pos h, if_neg (by simp [hm])]
theorem SI.setnow {S : Nat → Prop} {w : World} {H : Hd} {x : St} (m : SI S w H x) (n : Int) : SI S (w.setCell ⟨H.g, 21, none⟩ (.int .i64 n)) H { x with now := n } :=
  m.set ((Fr.refl [H.g] w).setCell (p := ⟨H.g, 21, none⟩) (.inl (by simp)) _) (by simpa using m.blk.set_ 21 (.int .i64 n)) rfl rfl rfl rfl rfl
theorem SI.settimed {S : Nat → Prop} {w : World} {H : Hd} {x : St} (m : SI S w H x) (n : Int) : SI S (w.setCell ⟨H.g, 22, none⟩ (.int .i64 n)) H { x with timed := n } :=
  m.set ((Fr.refl [H.g] w).setCell (p := ⟨H.g, 22, none⟩) (.inl (by simp)) _) (by simpa using m.blk.set_ 22 (.int .i64 n)) rfl rfl rfl rfl rfl
theorem late_ok {x : St} (ok : Ok x) (hn : x.now + 1 ≤ 1000000) : Ok { x with now := x.now + 1, clk := (Rto.lateV x.clk (x.now + 1)).1 } ∧ Ok { x with now := x.now + 1, clk := (Rto.lateV x.clk (x.now + 1)).1, timed := 0 } := by
  have h1 : Ok { x with now := x.now + 1, clk := (Rto.lateV x.clk (x.now + 1)).1 } := ⟨⟨ok.s.hi, ok.s.hu, ok.s.hw, Rto.late_inv ok.s.hc _, ok.s.hm, ok.s.hl, by have := ok.s.n0; simp only []; omega, by simp only []; omega, ok.s.s0, ok.s.s1⟩, ok.at0, ok.at5, ok.un, ok.kb, hn⟩
  exact ⟨h1, ⟨⟨h1.s.hi, h1.s.hu, h1.s.hw, h1.s.hc, h1.s.hm, h1.s.hl, h1.s.n0, h1.s.n1, h1.s.s0, h1.s.s1⟩, h1.at0, h1.at5, h1.un, h1.kb, h1.nb⟩⟩
theorem lpost_ag_rests {S S5 : Nat → Prop} {w w4 w5 w7 : World} {H : Hd} {y z : St} {p : Prt} {A : Option Addr} {c : Nat} (f0 : Fr H.own w w4) (x5 : Ext w4 S S5) (by5 : Byt S5 w5 (.slice A p.d.length c) p.d) (m5 : SI S5 w5 H y) (f5 : Fr H.own w4 w5)
    (m7 : SI S5 w7 H z) (f7 : Fr [H.gc] (w5.alloc (.cells #[.int .i64 p.flags, .int .u32 p.seq, .int .u32 p.ack, .int .u16 p.win, .slice A p.d.length c] 27)) w7) : LPost S w H (z, [p]) (.returned (.slice (some ⟨w5.heap.size, 0, none⟩) 1 1)) w7 := by
  have m6 := m5.fr ((Fr.refl [] w5).alloc (.cells #[.int .i64 p.flags, .int .u32 p.seq, .int .u32 p.ack, .int .u16 p.win, .slice A p.d.length c] 27))
  have hz0 := f0.size
  have hz5 := f5.size
  have hp : ∀ b, S5 b → b < w5.heap.size := HP.pub' m5.hp
  refine ⟨S5, H, _, [(p, .slice A p.d.length c)], rfl, rfl, ext_up x5 hz0, Hd.like.rfl' w H, m7, (pr_one by5).own_fr' m6 f7 (by simp [Hd.own]), ?_, ((f0.trans f5 (fun y hy => .inl hy)).alloc _).trans f7 (fun y hy => .inl (by simp at hy; subst hy; simp [Hd.own]))⟩
  intro b hb
  simp [ob, Value.ownBlock] at hb
  subst hb
  exact ⟨by omega, fun hs => by have := hp _ hs; omega⟩
set_option maxHeartbeats 8000000 in
theorem tick_si {S : Nat → Prop} {w : World} {H : Hd} {x : St} (m : SI S w H x) (ok : Ok x) (hr : Rest x) (hn : x.now + 1 ≤ 1000000) : Calls Try.prog 9 #[ptr H.g] w (CPost S w H ((tickV x).1, (tickV x).2, 0)) := by
  have v0 := tickV_not x
  have v1 := tickV_more x
  have v2 := tickV_end x
  have hrw : Rto.dueV x.clk (x.now + 1) = true → waitsV x = true := fun h => hr.symm.trans (due_rn h)
  have c16 := (scells m.blk).c16
  have c21 := (scells m.blk).c21
  have z21 := m.blk.frozen 21
  have hlt := m.blk.lt
  have n0 := ok.s.n0
  have hw1 : IntKind.i64.wrap (x.now + 1) = x.now + 1 := IntWalk.i64_in _ (by omega)
  generalize tickV x = r at *
  have M := Lib.hid m
  have OK := Lib.hid ok
  have V0 := Lib.hid v0
  have V1 := Lib.hid v1
  have V2 := Lib.hid v2
  have HRW := Lib.hid hrw
  clear m ok v0 v1 v2 hr hrw
  go_enter Try.func9, Try.ntmps9
  go_wp2_with fail
  refine (snone_si H.g H.gw w c16).mono ?_
  rintro e w' ⟨rfl, rfl⟩
  go_upto_region 4 with fail
  have m1 := M.out.setnow (x.now + 1)
  have f1 : Fr [H.g] w (w.setCell ⟨H.g, 21, none⟩ (.int .i64 (x.now + 1))) := (Fr.refl [H.g] w).setCell (p := ⟨H.g, 21, none⟩) (.inl (by simp)) _
  generalize w.setCell ⟨H.g, 21, none⟩ (.int .i64 (x.now + 1)) = w1 at *
  have d17 : w1.cell? ⟨H.g, 17, none⟩ = some (ptr H.gc) := (scells m1.blk).c17
  have d21 : w1.cell? ⟨H.g, 21, none⟩ = some (.int .i64 (x.now + 1)) := (scells m1.blk).c21
  have g17 := Grew.cell d17
  have g21 := Grew.cell d21
  have hdu : ∀ p : Grew w1, Calls Try.prog 28 #[ptr H.gc, .int .i64 (x.now + 1)] p.W fun e w' => e = .returned (.bool (Rto.dueV x.clk (x.now + 1))) ∧ ∃ q : Grew w1, w' = q.W := fun p => grew_call (Rto.due_fr H.gc x.clk (x.now + 1) p.W (Blk.fr m1.clk p.fr (by simp)) OK.out.s.hc)
  have HDU := Lib.hid hdu
  have M1 := Lib.hid m1
  have F1 := Lib.hid f1
  clear hdu m1 f1 c16 c21 z21 hlt d17 d21
  generalize hdv : Rto.dueV x.clk (x.now + 1) = du at *
  refine wp_region_grew (by kernel_rfl) (by kernel_rfl) ?_
  repeat (go_big_quiet_step ((go_at_call 28; exact HDU.out _)))
  refine wpQuiet_nil ?_
  intro w2 f2
  have m2 := M1.out.fr f2
  have F2 : Hid (Fr [H.g] w w2) := Lib.hid (F1.out.trans f2 (by simp))
  have M2 := Lib.hid m2
  clear f2 g17 g21 HDU m2 hdv
  rcases Bool.eq_false_or_eq_true du with rfl | rfl
  · have d17 : w2.cell? ⟨H.g, 17, none⟩ = some (ptr H.gc) := (scells M2.out.blk).c17
    have d21 : w2.cell? ⟨H.g, 21, none⟩ = some (.int .i64 (x.now + 1)) := (scells M2.out.blk).c21
    have hla := Rto.late_clk H.gc x.clk (x.now + 1) w2.drew (Blk.fr M2.out.clk (Fr.refl [] w2).drew (by simp)) OK.out.s.hc
    have HLA := Lib.hid hla
    clear hla
    go_upto_region 6 with fail
    go_region_held3 (fun w' => w'.cell? ⟨H.g, 17, none⟩ = some (ptr H.gc) ∧ w'.cell? ⟨H.g, 21, none⟩ = some (.int .i64 (x.now + 1)))
      (first
        | (with_reducible exact ⟨s0, s1⟩)
        | go_keep)
      (first
        | (go_at_call 29; refine HLA.out.mono ?_; rintro e w3 ⟨rfl, f3, C3⟩; have f3' : Fr [H.gc] w2 w3 := (Fr.refl [H.gc] w2).drew.trans f3 (fun y hy => .inl hy); have m3 := M2.out.setc f3' C3; have d3 := scells m3.blk; have s0 : w3.cell? ⟨H.g, 17, none⟩ = some (ptr H.gc) := d3.c17; have s1 : w3.cell? ⟨H.g, 21, none⟩ = some (.int .i64 (x.now + 1)) := d3.c21; have M3 := Lib.hid m3; have F3 := Lib.hid f3'; clear m3 d3 f3 f3' C3))
    have F3' : Hid (Fr H.own w w3) := Lib.hid ((F2.out.mono (by simp [Hd.own])).trans (F3.out.mono (O' := H.own) (by simp [Hd.own])) (fun y hy => .inl hy))
    have ok3 := late_ok OK.out hn
    have hw3 := HRW.out (by trivial)
    generalize hlv : Rto.lateV x.clk (x.now + 1) = lv at *
    obtain ⟨ck, mo, er⟩ := lv
    dsimp only at M3 ok3
    have OK3 := Lib.hid ok3
    have HW3 := Lib.hid hw3
    clear d17 d21 s0 s1 HLA ok3 hw3 hlv HRW F3 hw1 n0
    have c22 := (scells M3.out.blk).c22
    have z22 := M3.out.blk.frozen 22
    have hlt3 := M3.out.blk.lt
    dsimp only
    rcases Bool.eq_false_or_eq_true mo with rfl | rfl
    · go_upto_region 11 with fail
      have m4 := M3.out.settimed 0
      have f4 : Fr [H.g] w3 (w3.setCell ⟨H.g, 22, none⟩ (.int .i64 0)) := (Fr.refl [H.g] w3).setCell (p := ⟨H.g, 22, none⟩) (.inl (by simp)) _
      generalize w3.setCell ⟨H.g, 22, none⟩ (.int .i64 0) = w4 at *
      have F4 : Hid (Fr H.own w w4) := Lib.hid (F3'.out.trans (f4.mono (O' := H.own) (by simp [Hd.own])) (fun y hy => .inl hy))
      have hag := again_si m4 OK3.out.2 HW3.out
      have hv := V1.out (by trivial) (by trivial)
      have hokA := Ok.again OK3.out.2 HW3.out
      dsimp only at hag hv hokA
      generalize againV { x with now := x.now + 1, clk := ck, timed := 0 } = ag at *
      obtain ⟨y, p⟩ := ag
      dsimp only at hag hv hokA
      have HAG := Lib.hid hag
      have HV := Lib.hid hv
      have OKA := Lib.hid hokA
      clear hag hv hokA m4 f4 c22 z22
      go_wp2_with fail
      refine HAG.out.mono ?_
      rintro e w5 ⟨S5, A5, c5, rfl, x5, by5, m5, f5⟩
      have X5 := Lib.hid x5
      have BY5 := Lib.hid by5
      have M5 := Lib.hid m5
      have F5 := Lib.hid (f5.mono (O' := H.own) (by simp [Hd.own]))
      have m6 := m5.fr ((Fr.refl [] w5).alloc (.cells #[.int .i64 p.flags, .int .u32 p.seq, .int .u32 p.ack, .int .u16 p.win, .slice A5 p.d.length c5] 27))
      have M6 := Lib.hid m6
      clear x5 by5 m5 f5 m6
      go_wp2_with fail
      refine (rests_si M6.out OKA.out.s.hc (some ⟨w5.heap.size, 0, none⟩) 1 1).mono ?_
      rintro e w7 ⟨rfl, m7, f7⟩
      have hfin := lpost_ag_rests F4.out X5.out BY5.out M5.out F5.out m7 f7
      have HF := Lib.hid hfin
      clear hfin m7 f7
      go_wp2_with fail
      go_ret2
      rw [HV.out]
      exact ⟨_, rfl, HF.out⟩
    · have hv := V2.out (by trivial) (by trivial)
      have HV := Lib.hid hv
      clear hv
      go_wp2_with fail
      refine (done_si M3.out true).mono ?_
      rintro e w4 ⟨rfl, m4, f4⟩
      have M4 := Lib.hid m4
      have F4 : Hid (Fr H.own w w4) := Lib.hid (F3'.out.trans (f4.mono (O' := H.own) (by simp [Hd.own])) (fun y hy => .inl hy))
      clear m4 f4
      go_wp2_with fail
      refine (rests_si M4.out (OK3.out.1.done true).s.hc none 0 0).mono ?_
      rintro e w5 ⟨rfl, m5, f5⟩
      have M5 := Lib.hid m5
      have F5 : Hid (Fr H.own w w5) := Lib.hid (F4.out.trans (f5.mono (O' := H.own) (by simp [Hd.own])) (fun y hy => .inl hy))
      clear m5 f5
      go_wp2_with fail
      go_ret2
      rw [HV.out]
      exact c_nil M5.out F5.out
  · go_wp2_with fail
    go_ret2
    rw [V0.out (by trivial)]
    exact c_nil M2.out (F2.out.mono (by simp [Hd.own]))
end Go.Proofs.Ytmgdbbbdhkfdmaa

/-
  What State tells.
-/
namespace Go.Proofs.Ytmgdbbbdhkfdmaa
set_option maxRecDepth 100000
open Go.RowKit Go.Deep

abbrev stA (x : St) : Array Value := #[.int .i64 x.at_, .bool x.broken, .int .u32 x.peer, .int .i64 x.win.a, .int .i64 x.win.s, .int .i64 x.win.m, .int .i64 x.win.l, .int .i64 x.all.length, .int .i64 x.heap.next, .int .i64 x.unread.length, .int .i64 x.clk.wt, .bool x.closing, .bool x.ended]
abbrev stF (x : St) : Array Value := #[.int .i64 x.at_, .bool x.broken, .int .u32 x.peer, .int .i64 0, .int .i64 0, .int .i64 0, .int .i64 0, .int .i64 x.all.length, .int .i64 0, .int .i64 0, .int .i64 0, .bool x.closing, .bool x.ended]
theorem keepS {w : World} {g b : Nat} {v15 v16 v17 v18 : Value} (h : w.cell? ⟨g, 15, none⟩ = some v15 ∧ w.cell? ⟨g, 16, none⟩ = some v16 ∧ w.cell? ⟨g, 17, none⟩ = some v17 ∧ w.cell? ⟨g, 18, none⟩ = some v18) (n : g ≠ b) (j : Nat) (u : Value) :
    (w.setCell ⟨b, j, none⟩ u).cell? ⟨g, 15, none⟩ = some v15 ∧ (w.setCell ⟨b, j, none⟩ u).cell? ⟨g, 16, none⟩ = some v16 ∧ (w.setCell ⟨b, j, none⟩ u).cell? ⟨g, 17, none⟩ = some v17 ∧ (w.setCell ⟨b, j, none⟩ u).cell? ⟨g, 18, none⟩ = some v18 := by
  have f : Fr [b] w (w.setCell ⟨b, j, none⟩ u) := (Fr.refl [b] w).setCell (p := ⟨b, j, none⟩) (.inl (by simp)) u
  have k : ∀ {i : Nat} {v : Value}, w.cell? ⟨g, i, none⟩ = some v → (w.setCell ⟨b, j, none⟩ u).cell? ⟨g, i, none⟩ = some v := fun {i v} h => (f.cell (p := ⟨g, i, none⟩) (World.block_lt_of_cell? w _ h) (by simpa using n)).trans h
  exact ⟨k h.1, k h.2.1, k h.2.2.1, k h.2.2.2⟩
set_option maxHeartbeats 8000000 in
theorem state_si {S : Nat → Prop} {w : World} {H : Hd} {x : St} (m : SI S w H x) (ok : OkS x) : Calls Try.prog 13 #[ptr H.g] w fun e w' => e = .returned (.agg (stA x)) ∧ Fr [] w w' := by
  have hgl := m.blk.lt
  have f0 : Fr [] w (w.alloc (.cells formZ 34)) := (Fr.refl [] w).alloc _
  have b0 : Blk (w.alloc (.cells formZ 34)) w.heap.size 34 formZ := Blk.new w _ _
  have m0 := m.fr f0
  have c16 := (scells m0.blk).c16
  have HS := Lib.hid (snone_si H.g H.gw (w.alloc (.cells formZ 34)) c16)
  have OK := Lib.hid ok
  clear m ok
  go_enter Try.func13, Try.ntmps13
  go_wp2_with fail
  refine HS.out.mono ?_
  rintro e w' ⟨rfl, rfl⟩
  have hs0 : w.heap.size < (w.alloc (.cells formZ 34)).heap.size := by simp
  generalize w.alloc (.cells formZ 34) = w0 at *
  have B := m0.blk
  have q : ∀ j v, (arS x H)[j]? = some v → w0.cell? ⟨H.g, j, none⟩ = some v := fun j v h => (B.cell j).trans h
  have q0 := q 0 _ rfl
  have q1 := q 1 _ rfl
  have q2 := q 2 _ rfl
  have q3 := q 3 _ rfl
  have q4 := q 4 _ rfl
  have q5 := q 5 _ rfl
  have q6 := q 6 _ rfl
  have q7 := q 7 _ rfl
  have q8 := q 8 _ rfl
  have q9 := q 9 _ rfl
  have q10 := q 10 _ rfl
  have q11 := q 11 _ rfl
  have q12 := q 12 _ rfl
  have M0 := Lib.hid m0
  have F0 := Lib.hid f0
  have B0 := Lib.hid b0
  clear q B m0 f0 b0 HS
  go_upto_region 4 with fail
  have f1 : Fr [] w0 (w0.alloc (.cells (stF x) 34)) := (Fr.refl [] w0).alloc _
  have b1 : Blk (w0.alloc (.cells (stF x) 34)) w0.heap.size 34 (stF x) := Blk.new w0 _ _
  have m1 := M0.out.fr f1
  have hlt := M0.out.lt
  have hbr := B0.out.fr f1 (by simp)
  generalize w0.alloc (.cells (stF x) 34) = w1 at *
  have n1 : H.g ≠ w0.heap.size := by have := hlt H.g (by simp [Hd.own]); omega
  have n2 : w.heap.size ≠ w0.heap.size := by omega
  have hbs : w.heap.size < w0.heap.size := hs0
  generalize w0.heap.size = b3 at *
  have cs := scells m1.blk
  have c15 := cs.c15
  have c16 := cs.c16
  have c17 := cs.c17
  have c18 := cs.c18
  obtain ⟨uA, uc, huv, _, _⟩ := own_form m1.unr
  rw [huv] at c15
  have HSt : Hid (∀ W, Fr [] w1 W → Calls Try.prog 34 #[ptr H.gw] W _) := Lib.hid (fun W fW => Win.state_win H.gw x.win W (Blk.fr m1.win fW (by simp)))
  have HNx : Hid (∀ W, Fr [] w1 W → Calls Try.prog 42 #[ptr H.gh] W _) := Lib.hid (fun W fW => next_hp (m1.hp.ext' fW (Ext.refl w1 S) (by simp) (by simp) (fun b hb => Nat.lt_of_lt_of_le (HP.pub' m1.hp b hb) fW.size)))
  have HWa : Hid (∀ W, Fr [] w1 W → Calls Try.prog 43 #[ptr H.gc] W _) := Lib.hid (fun W fW => Rto.wait_clk H.gc x.clk W (Blk.fr m1.clk fW (by simp)) OK.out.hc)
  have SEE : Hid (∀ W, Fr [] w1 W → W.cell? ⟨H.g, 15, none⟩ = some (.slice uA x.unread.length uc) ∧ W.cell? ⟨H.g, 16, none⟩ = some (ptr H.gw) ∧ W.cell? ⟨H.g, 17, none⟩ = some (ptr H.gc) ∧ W.cell? ⟨H.g, 18, none⟩ = some (ptr H.gh)) := Lib.hid (fun W fW => ⟨fr_cell fW c15, fr_cell fW c16, fr_cell fW c17, fr_cell fW c18⟩)
  have BLK : Hid (∀ W, Fr [] w1 W → Blk W b3 34 (stF x)) := Lib.hid (fun W fW => b1.fr fW (by simp))
  have F1 := Lib.hid (F0.out.trans f1 (by simp))
  have HBR := Lib.hid hbr
  clear m1 cs hbr f1 b1 hlt
  clear q0 q1 q2 q3 q4 q5 q6 q7 q8 q9 q10 q11 q12
  have NB : Hid (H.g ≠ b3) := Lib.hid n1
  go_cut [] (fun wx => Blk wx b3 34 (stA x) ∧ Fr [b3] w1 wx)
  case first =>
    go_region_held3 (fun w' => w'.cell? ⟨H.g, 15, none⟩ = some (.slice uA x.unread.length uc) ∧ w'.cell? ⟨H.g, 16, none⟩ = some (ptr H.gw) ∧ w'.cell? ⟨H.g, 17, none⟩ = some (ptr H.gc) ∧ w'.cell? ⟨H.g, 18, none⟩ = some (ptr H.gh))
      (first
        | (with_reducible exact SEE.out _ f5)
        | (with_reducible exact SEE.out _ (Fr.refl [] w1).drew)
        | (with_reducible exact keepS (by assumption) NB.out _ _)
        | (with_reducible exact keepS (keepS (keepS (keepS (SEE.out _ f5) NB.out _ _) NB.out _ _) NB.out _ _) NB.out _ _)
        | (with_reducible exact keepS (keepS (keepS (keepS (keepS (SEE.out _ f5) NB.out _ _) NB.out _ _) NB.out _ _) NB.out _ _) NB.out _ _)
        | (with_reducible exact keepS (keepS (keepS (keepS (keepS (keepS (SEE.out _ f5) NB.out _ _) NB.out _ _) NB.out _ _) NB.out _ _) NB.out _ _) NB.out _ _)
        | (with_reducible exact keepS (keepS (keepS (keepS (keepS (keepS (keepS (SEE.out _ f5) NB.out _ _) NB.out _ _) NB.out _ _) NB.out _ _) NB.out _ _) NB.out _ _) NB.out _ _)
        | go_keep)
      (first
        | (go_at_call 34; refine (HSt.out _ (Fr.refl [] w1).drew).mono ?_; rintro e w5 ⟨rfl, f5'⟩; have f5 : Fr [] w1 w5 := (Fr.refl [] w1).drew.trans f5' (by simp); have b5 := BLK.out _ f5; have k3 := b5.cell 3; have k4 := b5.cell 4; have k5 := b5.cell 5; have k6 := b5.cell 6; have k8 := b5.cell 8; have k9 := b5.cell 9; have k10 := b5.cell 10; have hl5 := b5.lt; have z3 := b5.frozen 3; have z4 := b5.frozen 4; have z5 := b5.frozen 5; have z6 := b5.frozen 6; have z8 := b5.frozen 8; have z9 := b5.frozen 9; have z10 := b5.frozen 10; simp at k3 k4 k5 k6 k8 k9 k10; clear f5' b5)
        | (go_at_call 42; refine (HNx.out _ f5).mono ?_; rintro e w' ⟨rfl, rfl⟩)
        | (go_at_call 42; refine (HNx.out _ (Fr.refl [] w1).drew).mono ?_; rintro e w' ⟨rfl, rfl⟩)
        | (go_at_call 43; refine (HWa.out _ f5).mono ?_; rintro e w' ⟨rfl, rfl⟩)
        | (go_at_call 43; refine (HWa.out _ (Fr.refl [] w1).drew).mono ?_; rintro e w' ⟨rfl, rfl⟩))
    all_goals
      go_wp2_with fail
      go_meet
      exact ⟨((((((((BLK.out _ f5).set_ 3 (.int .i64 x.win.a)).set_ 4 (.int .i64 x.win.s)).set_ 5 (.int .i64 x.win.m)).set_ 6 (.int .i64 x.win.l)).set_ 8 (.int .i64 x.heap.next)).set_ 9 (.int .i64 x.unread.length)).set_ 10 (.int .i64 x.clk.wt)),
        (((((((f5.mono (O' := [b3]) (by simp)).setCell (p := ⟨b3, 3, none⟩) (.inl (by simp)) _).setCell (p := ⟨b3, 4, none⟩) (.inl (by simp)) _).setCell (p := ⟨b3, 5, none⟩) (.inl (by simp)) _).setCell (p := ⟨b3, 6, none⟩) (.inl (by simp)) _).setCell (p := ⟨b3, 8, none⟩) (.inl (by simp)) _).setCell (p := ⟨b3, 9, none⟩) (.inl (by simp)) _).setCell (p := ⟨b3, 10, none⟩) (.inl (by simp)) _⟩
  case rest =>
    obtain ⟨bx, fx⟩ := hcut
    have q : ∀ j v, (stA x)[j]? = some v → wc.cell? ⟨b3, j, none⟩ = some v := fun j v h => (bx.cell j).trans h
    have q0 := q 0 _ rfl
    have q1 := q 1 _ rfl
    have q2 := q 2 _ rfl
    have q3 := q 3 _ rfl
    have q4 := q 4 _ rfl
    have q5 := q 5 _ rfl
    have q6 := q 6 _ rfl
    have q7 := q 7 _ rfl
    have q8 := q 8 _ rfl
    have q9 := q 9 _ rfl
    have q10 := q 10 _ rfl
    have q11 := q 11 _ rfl
    have q12 := q 12 _ rfl
    have BR := Lib.hid (HBR.out.fr fx (by simpa using n2))
    have FX := Lib.hid (F1.out.trans fx (fun y hy => .inr (by simp at hy; omega)))
    clear q bx fx
    go_wp2_with ((with_reducible refine gate_store 34 (.tmp 2) ?_); refine wpList_store_blk rfl 34 (.tmp 2) (.tmp 35) rfl w.heap.size 34 formZ (stA x) rfl rfl BR.out rfl (by kernel_rfl) (by simp [Value.oneCell']) ?_; intro w3 B3 F3)
    have r : ∀ j v, (stA x)[j]? = some v → w3.cell? ⟨w.heap.size, j, none⟩ = some v := fun j v h => (B3.cell j).trans h
    have r0 := r 0 _ rfl
    have r1 := r 1 _ rfl
    have r2 := r 2 _ rfl
    have r3 := r 3 _ rfl
    have r4 := r 4 _ rfl
    have r5 := r 5 _ rfl
    have r6 := r 6 _ rfl
    have r7 := r 7 _ rfl
    have r8 := r 8 _ rfl
    have r9 := r 9 _ rfl
    have r10 := r 10 _ rfl
    have r11 := r 11 _ rfl
    have r12 := r 12 _ rfl
    refine bodyPost_ret (v := .agg (stA x)) (by simp [results, Try.results13, go_sem, r0, r1, r2, r3, r4, r5, r6, r7, r8, r9, r10, r11, r12]) rfl ?_
    exact ⟨rfl, FX.out.trans F3 (by intro y hy; simp at hy; subst hy; exact .inr (Nat.le_refl _))⟩
end Go.Proofs.Ytmgdbbbdhkfdmaa
