import Derived.Test.YtdlmhadcaagokaaO
import Derived.Test.YtdlmhadcaagokaaK
import Derived.Deep.DeepCutAuto
namespace Go.Proofs.Ytdlmhadcaagokaa
open Go.RowKit Go.Deep

theorem bne_of {x y : Int} {b : Bool} (h : (x == y) = b) : (x != y) = !b := by simp only [bne, h]
def REndsPost (w : World) (v : Value) (err : Int) (e : Ending) (w' : World) : Prop := e = .returned (.tuple #[v, .int .i64 err]) ∧ Fr [] w w'
def REndsIf (w : World) (a : Int) (l : List Pc) (v1 v2 : Value) (e : Ending) (w' : World) : Prop := REndsPost w (if l.any (over a) = true then v1 else v2) (if l.any (over a) = true then 250 else 0) e w'
def REndsRel (w : World) (ar : Array Value) (a : Int) (l : List Pc) (s6 : Value) (wr : World) : Prop :=
  ∃ k : Nat, k ≤ l.length ∧ s6 = .int .i64 k ∧ (l.take k).any (over a) = false ∧ Fr [] w wr ∧ Blk wr w.heap.size 31 ar ∧ Blk wr (w.heap.size + 1) 31 (arR 0 0 (.slice none 0 0) 0)
set_option maxHeartbeats 2000000 in
theorem rends_0 (S : Nat → Prop) (w : World) (m n f : Int) (kv : Value) (L : List (Pc × Value)) (h : Kp 65 S w kv L) (hl : L.length ≤ 64) (a : Int) (h0 : a < 0) :
    Calls Try.prog 24 #[agR m n kv f, .int .i64 a] w (REndsPost w (agR m n kv f) 2) := by
  obtain ⟨KA, KC, rfl, hKn, hKc⟩ := h.form
  have K := Lib.hid h
  have b0 := (Blk.new w 31 (arR m n (.slice KA L.length KC) f)).alloc (.cells (arR 0 0 (.slice none 0 0) 0) 31)
  have b1 : Blk ((w.alloc (.cells (arR m n (.slice KA L.length KC) f) 31)).alloc (.cells (arR 0 0 (.slice none 0 0) 0) 31)) (w.heap.size + 1) 31 (arR 0 0 (.slice none 0 0) 0) := by simpa using Blk.new (w.alloc (.cells (arR m n (.slice KA L.length KC) f) 31)) 31 (arR 0 0 (.slice none 0 0) 0)
  have f0 : Fr [] w ((w.alloc (.cells (arR m n (.slice KA L.length KC) f) 31)).alloc (.cells (arR 0 0 (.slice none 0 0) 0) 31)) := ((Fr.refl _ _).alloc _).alloc _
  have B0 := Lib.hid b0
  have B1 := Lib.hid b1
  have F0 := Lib.hid f0
  clear h b0 b1 f0
  go_enter Try.func24, Try.ntmps24
  go_wp2_with ((with_reducible refine gate_store 31 (.tmp 4) ?_); refine wpList_store_blk rfl 31 (.tmp 4) (.tmp 13) rfl (w.heap.size + 1) 31 (arR 0 0 (.slice none 0 0) 0) (arR m n (.slice KA L.length KC) f) rfl rfl B1.out rfl (by kernel_rfl) (by simp [Value.oneCell']) ?_; intro w2 B3 F3)
  obtain ⟨r0, r1, r2, r3⟩ := cells4 B3
  refine bodyPost_ret (v := .tuple #[agR m n (.slice KA L.length KC) f, .int .i64 2]) (by simp [results, Try.results24, go_sem, r0, r1, r2, r3]) rfl ?_
  exact ⟨rfl, F0.out.trans F3 (by simp)⟩
set_option maxHeartbeats 2000000 in
theorem rends_1 (S : Nat → Prop) (w : World) (m n f : Int) (kv : Value) (L : List (Pc × Value)) (h : Kp 65 S w kv L) (hl : L.length ≤ 64) (a : Int) (h0 : 4611686018427387904 < a) :
    Calls Try.prog 24 #[agR m n kv f, .int .i64 a] w (REndsPost w (agR m n kv f) 2) := by
  obtain ⟨KA, KC, rfl, hKn, hKc⟩ := h.form
  have K := Lib.hid h
  have b0 := (Blk.new w 31 (arR m n (.slice KA L.length KC) f)).alloc (.cells (arR 0 0 (.slice none 0 0) 0) 31)
  have b1 : Blk ((w.alloc (.cells (arR m n (.slice KA L.length KC) f) 31)).alloc (.cells (arR 0 0 (.slice none 0 0) 0) 31)) (w.heap.size + 1) 31 (arR 0 0 (.slice none 0 0) 0) := by simpa using Blk.new (w.alloc (.cells (arR m n (.slice KA L.length KC) f) 31)) 31 (arR 0 0 (.slice none 0 0) 0)
  have f0 : Fr [] w ((w.alloc (.cells (arR m n (.slice KA L.length KC) f) 31)).alloc (.cells (arR 0 0 (.slice none 0 0) 0) 31)) := ((Fr.refl _ _).alloc _).alloc _
  have B0 := Lib.hid b0
  have B1 := Lib.hid b1
  have F0 := Lib.hid f0
  clear h b0 b1 f0
  go_enter Try.func24, Try.ntmps24
  go_wp2_with ((with_reducible refine gate_store 31 (.tmp 4) ?_); refine wpList_store_blk rfl 31 (.tmp 4) (.tmp 13) rfl (w.heap.size + 1) 31 (arR 0 0 (.slice none 0 0) 0) (arR m n (.slice KA L.length KC) f) rfl rfl B1.out rfl (by kernel_rfl) (by simp [Value.oneCell']) ?_; intro w2 B3 F3)
  obtain ⟨r0, r1, r2, r3⟩ := cells4 B3
  refine bodyPost_ret (v := .tuple #[agR m n (.slice KA L.length KC) f, .int .i64 2]) (by simp [results, Try.results24, go_sem, r0, r1, r2, r3]) rfl ?_
  exact ⟨rfl, F0.out.trans F3 (by simp)⟩
set_option maxHeartbeats 2000000 in
theorem rends_2 (S : Nat → Prop) (w : World) (m n f : Int) (kv : Value) (L : List (Pc × Value)) (h : Kp 65 S w kv L) (hl : L.length ≤ 64) (a : Int) (h0 : 0 ≤ a) (h1 : a ≤ 4611686018427387904) (h2 : 0 ≤ f) (h3 : (f == a) = false) (h3b : (f != a) = true) :
    Calls Try.prog 24 #[agR m n kv f, .int .i64 a] w (REndsPost w (agR m n kv f) 250) := by
  obtain ⟨KA, KC, rfl, hKn, hKc⟩ := h.form
  have K := Lib.hid h
  have b0 := (Blk.new w 31 (arR m n (.slice KA L.length KC) f)).alloc (.cells (arR 0 0 (.slice none 0 0) 0) 31)
  have b1 : Blk ((w.alloc (.cells (arR m n (.slice KA L.length KC) f) 31)).alloc (.cells (arR 0 0 (.slice none 0 0) 0) 31)) (w.heap.size + 1) 31 (arR 0 0 (.slice none 0 0) 0) := by simpa using Blk.new (w.alloc (.cells (arR m n (.slice KA L.length KC) f) 31)) 31 (arR 0 0 (.slice none 0 0) 0)
  have f0 : Fr [] w ((w.alloc (.cells (arR m n (.slice KA L.length KC) f) 31)).alloc (.cells (arR 0 0 (.slice none 0 0) 0) 31)) := ((Fr.refl _ _).alloc _).alloc _
  have B0 := Lib.hid b0
  have B1 := Lib.hid b1
  have F0 := Lib.hid f0
  clear h b0 b1 f0
  go_enter Try.func24, Try.ntmps24
  go_wp2_with ((with_reducible refine gate_store 31 (.tmp 4) ?_); refine wpList_store_blk rfl 31 (.tmp 4) (.tmp 29) rfl (w.heap.size + 1) 31 (arR 0 0 (.slice none 0 0) 0) (arR m n (.slice KA L.length KC) f) rfl rfl B1.out rfl (by kernel_rfl) (by simp [Value.oneCell']) ?_; intro w2 B3 F3)
  obtain ⟨r0, r1, r2, r3⟩ := cells4 B3
  refine bodyPost_ret (v := .tuple #[agR m n (.slice KA L.length KC) f, .int .i64 250]) (by simp [results, Try.results24, go_sem, r0, r1, r2, r3]) rfl ?_
  exact ⟨rfl, F0.out.trans F3 (by simp)⟩
set_option maxHeartbeats 2000000 in
theorem rends_3 (S : Nat → Prop) (w : World) (m n f : Int) (kv : Value) (L : List (Pc × Value)) (h : Kp 65 S w kv L) (hl : L.length ≤ 64) (a : Int) (h0 : 0 ≤ a) (h1 : a ≤ 4611686018427387904) (h2 : f < 0) (h4 : a < n) :
    Calls Try.prog 24 #[agR m n kv f, .int .i64 a] w (REndsPost w (agR m n kv f) 250) := by
  obtain ⟨KA, KC, rfl, hKn, hKc⟩ := h.form
  have K := Lib.hid h
  have b0 := (Blk.new w 31 (arR m n (.slice KA L.length KC) f)).alloc (.cells (arR 0 0 (.slice none 0 0) 0) 31)
  have b1 : Blk ((w.alloc (.cells (arR m n (.slice KA L.length KC) f) 31)).alloc (.cells (arR 0 0 (.slice none 0 0) 0) 31)) (w.heap.size + 1) 31 (arR 0 0 (.slice none 0 0) 0) := by simpa using Blk.new (w.alloc (.cells (arR m n (.slice KA L.length KC) f) 31)) 31 (arR 0 0 (.slice none 0 0) 0)
  have f0 : Fr [] w ((w.alloc (.cells (arR m n (.slice KA L.length KC) f) 31)).alloc (.cells (arR 0 0 (.slice none 0 0) 0) 31)) := ((Fr.refl _ _).alloc _).alloc _
  have B0 := Lib.hid b0
  have B1 := Lib.hid b1
  have F0 := Lib.hid f0
  clear h b0 b1 f0
  go_enter Try.func24, Try.ntmps24
  go_wp2_with ((with_reducible refine gate_store 31 (.tmp 4) ?_); refine wpList_store_blk rfl 31 (.tmp 4) (.tmp 29) rfl (w.heap.size + 1) 31 (arR 0 0 (.slice none 0 0) 0) (arR m n (.slice KA L.length KC) f) rfl rfl B1.out rfl (by kernel_rfl) (by simp [Value.oneCell']) ?_; intro w2 B3 F3)
  obtain ⟨r0, r1, r2, r3⟩ := cells4 B3
  refine bodyPost_ret (v := .tuple #[agR m n (.slice KA L.length KC) f, .int .i64 250]) (by simp [results, Try.results24, go_sem, r0, r1, r2, r3]) rfl ?_
  exact ⟨rfl, F0.out.trans F3 (by simp)⟩
set_option maxHeartbeats 2000000 in
theorem rends_4 (S : Nat → Prop) (w : World) (m n f : Int) (kv : Value) (L : List (Pc × Value)) (h : Kp 65 S w kv L) (hl : L.length ≤ 64) (a : Int) (h0 : 0 ≤ a) (h1 : a ≤ 4611686018427387904) (h2 : 0 ≤ f) (h3 : (f == a) = true) (h3b : (f != a) = false) (h4 : a < n) :
    Calls Try.prog 24 #[agR m n kv f, .int .i64 a] w (REndsPost w (agR m n kv f) 250) := by
  obtain ⟨KA, KC, rfl, hKn, hKc⟩ := h.form
  have K := Lib.hid h
  have b0 := (Blk.new w 31 (arR m n (.slice KA L.length KC) f)).alloc (.cells (arR 0 0 (.slice none 0 0) 0) 31)
  have b1 : Blk ((w.alloc (.cells (arR m n (.slice KA L.length KC) f) 31)).alloc (.cells (arR 0 0 (.slice none 0 0) 0) 31)) (w.heap.size + 1) 31 (arR 0 0 (.slice none 0 0) 0) := by simpa using Blk.new (w.alloc (.cells (arR m n (.slice KA L.length KC) f) 31)) 31 (arR 0 0 (.slice none 0 0) 0)
  have f0 : Fr [] w ((w.alloc (.cells (arR m n (.slice KA L.length KC) f) 31)).alloc (.cells (arR 0 0 (.slice none 0 0) 0) 31)) := ((Fr.refl _ _).alloc _).alloc _
  have B0 := Lib.hid b0
  have B1 := Lib.hid b1
  have F0 := Lib.hid f0
  clear h b0 b1 f0
  go_enter Try.func24, Try.ntmps24
  go_wp2_with ((with_reducible refine gate_store 31 (.tmp 4) ?_); refine wpList_store_blk rfl 31 (.tmp 4) (.tmp 29) rfl (w.heap.size + 1) 31 (arR 0 0 (.slice none 0 0) 0) (arR m n (.slice KA L.length KC) f) rfl rfl B1.out rfl (by kernel_rfl) (by simp [Value.oneCell']) ?_; intro w2 B3 F3)
  obtain ⟨r0, r1, r2, r3⟩ := cells4 B3
  refine bodyPost_ret (v := .tuple #[agR m n (.slice KA L.length KC) f, .int .i64 250]) (by simp [results, Try.results24, go_sem, r0, r1, r2, r3]) rfl ?_
  exact ⟨rfl, F0.out.trans F3 (by simp)⟩
set_option maxHeartbeats 2000000 in
theorem rends_5 (S : Nat → Prop) (w : World) (m n f : Int) (kv : Value) (L : List (Pc × Value)) (h : Kp 65 S w kv L) (hl : L.length ≤ 64) (a : Int) (hpc : ∀ x ∈ L, 0 ≤ x.1.at_ ∧ x.1.at_ ≤ 4611686018427387904 ∧ 1 ≤ x.1.d.length ∧ x.1.d.length ≤ 64) (h0 : 0 ≤ a) (h1 : a ≤ 4611686018427387904) (h2 : f < 0) (h4 : n ≤ a) :
    Calls Try.prog 24 #[agR m n kv f, .int .i64 a] w (REndsIf w a (L.map (·.1)) (agR m n kv f) (agR m n kv a)) := by
  obtain ⟨KA, KC, rfl, hKn, hKc⟩ := h.form
  have K := Lib.hid h
  have b0 := (Blk.new w 31 (arR m n (.slice KA L.length KC) f)).alloc (.cells (arR 0 0 (.slice none 0 0) 0) 31)
  have b1 : Blk ((w.alloc (.cells (arR m n (.slice KA L.length KC) f) 31)).alloc (.cells (arR 0 0 (.slice none 0 0) 0) 31)) (w.heap.size + 1) 31 (arR 0 0 (.slice none 0 0) 0) := by simpa using Blk.new (w.alloc (.cells (arR m n (.slice KA L.length KC) f) 31)) 31 (arR 0 0 (.slice none 0 0) 0)
  have f0 : Fr [] w ((w.alloc (.cells (arR m n (.slice KA L.length KC) f) 31)).alloc (.cells (arR 0 0 (.slice none 0 0) 0) 31)) := ((Fr.refl _ _).alloc _).alloc _
  have B0 := Lib.hid b0
  have B1 := Lib.hid b1
  have F0 := Lib.hid f0
  have HPC := Lib.hid hpc
  clear h b0 b1 f0 hpc
  go_enter Try.func24, Try.ntmps24
  go_wp2
  go_loopw [6] (fun s6 wr => REndsRel w (arR m n (.slice KA L.length KC) f) a (L.map (·.1)) s6 wr) (fun s6 _ => L.length - (intOf s6).toNat)
  case atStart => exact ⟨0, by omega, rfl, rfl, F0.out, B0.out, B1.out⟩
  case round =>
    obtain ⟨k, hk, rfl, hany, fk, bx, bz⟩ := hrel
    rw [List.length_map] at hk
    obtain ⟨c0, c1, c2, c3⟩ := cells4 bx
    have HA := Lib.hid hany
    clear hany
    have Fk := Lib.hid fk
    have Bx := Lib.hid bx
    have Bz := Lib.hid bz
    by_cases hlt : k < L.length
    · obtain ⟨b, _, x, hv, hx, d0, d1, hby⟩ := (K.out.fr fk (by simp) (by simp)).at_ hlt
      injection hv with hv _ hc
      subst hv hc
      obtain ⟨A, c, hxv, _, _⟩ := hby.form
      rw [hxv] at d1
      have hp := HPC.out x (List.mem_of_getElem? hx)
      have hg : (L.map (·.1))[k]? = some x.1 := by simp [hx]
      have x0 := Grew.cell c2
      have x1 := Grew.cell d0
      have x2 := Grew.cell d1
      have hov : over a x.1 = decide (a < x.1.at_ + (x.1.d.length : Int)) := rfl
      have HG := Lib.hid hg
      have HO := Lib.hid hov
      clear hov hg hx hxv hby fk bx bz
      obtain ⟨hp0, hp1, hp2, hp3⟩ := hp
      by_cases ho : a < x.1.at_ + (x.1.d.length : Int)
      · go_upto_region 8 with fail
        refine wp_region_grew (by kernel_rfl) (by kernel_rfl) ?_
        repeat (go_big_quiet_step (fail))
        refine wpQuiet_nil ?_
        intro W1 f1
        have bz1 := Bz.out.fr f1 (by simp)
        obtain ⟨e0, e1, e2, e3⟩ := cells4 (Bx.out.fr f1 (by simp))
        have F1 := Lib.hid (Fk.out.trans f1 (by simp))
        have BZ1 := Lib.hid bz1
        clear bz1 f1 x0 x1 x2
        go_wp2_with ((with_reducible refine gate_store 31 (.tmp 4) ?_); refine wpList_store_blk rfl 31 (.tmp 4) (.tmp 53) rfl (w.heap.size + 1) 31 (arR 0 0 (.slice none 0 0) 0) (arR m n (.slice (some ⟨b, 0, none⟩) L.length KC) f) rfl rfl BZ1.out rfl (by kernel_rfl) (by simp [Value.oneCell']) ?_; intro w2 B3 F3)
        obtain ⟨r0, r1, r2, r3⟩ := cells4 B3
        refine bodyPost_ret (v := .tuple #[agR m n (.slice (some ⟨b, 0, none⟩) L.length KC) f, .int .i64 250]) (by simp [results, Try.results24, go_sem, r0, r1, r2, r3]) rfl ?_
        have hyes : (L.map (·.1)).any (over a) = true := List.any_eq_true.2 ⟨x.1, List.mem_of_getElem? HG.out, by rw [HO.out]; simpa using ho⟩
        unfold REndsIf
        rw [hyes]
        exact ⟨rfl, F1.out.trans F3 (by simp)⟩
      · go_upto_region 8 with fail
        refine wp_region_grew (by kernel_rfl) (by kernel_rfl) ?_
        repeat (go_big_quiet_step (fail))
        refine wpQuiet_nil ?_
        intro W1 f1
        go_wp2_with fail
        go_roundw
        case rel => exact ⟨k + 1, by simp; omega, by go_num, by rw [any_take _ _ _ _ HG.out, HA.out, HO.out]; simpa using ho, Fk.out.trans f1 (by simp), Bx.out.fr f1 (by simp), Bz.out.fr f1 (by simp)⟩
        case measure => simp [intOf]; omega
    · obtain rfl : L.length = k := by omega
      have hno : (L.map (·.1)).any (over a) = false := by
        have := HA.out
        rwa [List.take_of_length_le (by simp)] at this
      have HN := Lib.hid hno
      have bxl := bx.lt
      have bxf := bx.frozen 3
      have bs := bx.set_ 3 (.int .i64 a)
      have fs := (Fr.refl [w.heap.size] wr).setCell (p := ⟨w.heap.size, 3, none⟩) (.inl (by simp)) (.int .i64 a)
      have bz2 := Lib.hid (bz.fr fs (by simp))
      have F2 := Lib.hid (Fk.out.trans fs (by simp))
      clear hno fk bx bz bs fs
      go_wp2_with ((with_reducible refine gate_store 31 (.tmp 4) ?_); refine wpList_store_blk rfl 31 (.tmp 4) (.tmp 56) rfl (w.heap.size + 1) 31 (arR 0 0 (.slice none 0 0) 0) (arR m n (.slice KA L.length KC) a) rfl rfl bz2.out rfl (by kernel_rfl) (by simp [Value.oneCell']) ?_; intro w2 B3 F3)
      obtain ⟨r0, r1, r2, r3⟩ := cells4 B3
      refine bodyPost_ret (v := .tuple #[agR m n (.slice KA L.length KC) a, .int .i64 0]) (by simp [results, Try.results24, go_sem, r0, r1, r2, r3]) rfl ?_
      unfold REndsIf
      rw [HN.out]
      exact ⟨rfl, F2.out.trans F3 (by simp)⟩
set_option maxHeartbeats 2000000 in
theorem rends_6 (S : Nat → Prop) (w : World) (m n f : Int) (kv : Value) (L : List (Pc × Value)) (h : Kp 65 S w kv L) (hl : L.length ≤ 64) (a : Int) (hpc : ∀ x ∈ L, 0 ≤ x.1.at_ ∧ x.1.at_ ≤ 4611686018427387904 ∧ 1 ≤ x.1.d.length ∧ x.1.d.length ≤ 64) (h0 : 0 ≤ a) (h1 : a ≤ 4611686018427387904) (h2 : 0 ≤ f) (h3 : (f == a) = true) (h3b : (f != a) = false) (h4 : n ≤ a) :
    Calls Try.prog 24 #[agR m n kv f, .int .i64 a] w (REndsIf w a (L.map (·.1)) (agR m n kv f) (agR m n kv a)) := by
  obtain ⟨KA, KC, rfl, hKn, hKc⟩ := h.form
  have K := Lib.hid h
  have b0 := (Blk.new w 31 (arR m n (.slice KA L.length KC) f)).alloc (.cells (arR 0 0 (.slice none 0 0) 0) 31)
  have b1 : Blk ((w.alloc (.cells (arR m n (.slice KA L.length KC) f) 31)).alloc (.cells (arR 0 0 (.slice none 0 0) 0) 31)) (w.heap.size + 1) 31 (arR 0 0 (.slice none 0 0) 0) := by simpa using Blk.new (w.alloc (.cells (arR m n (.slice KA L.length KC) f) 31)) 31 (arR 0 0 (.slice none 0 0) 0)
  have f0 : Fr [] w ((w.alloc (.cells (arR m n (.slice KA L.length KC) f) 31)).alloc (.cells (arR 0 0 (.slice none 0 0) 0) 31)) := ((Fr.refl _ _).alloc _).alloc _
  have B0 := Lib.hid b0
  have B1 := Lib.hid b1
  have F0 := Lib.hid f0
  have HPC := Lib.hid hpc
  clear h b0 b1 f0 hpc
  go_enter Try.func24, Try.ntmps24
  go_wp2
  go_loopw [6] (fun s6 wr => REndsRel w (arR m n (.slice KA L.length KC) f) a (L.map (·.1)) s6 wr) (fun s6 _ => L.length - (intOf s6).toNat)
  case atStart => exact ⟨0, by omega, rfl, rfl, F0.out, B0.out, B1.out⟩
  case round =>
    obtain ⟨k, hk, rfl, hany, fk, bx, bz⟩ := hrel
    rw [List.length_map] at hk
    obtain ⟨c0, c1, c2, c3⟩ := cells4 bx
    have HA := Lib.hid hany
    clear hany
    have Fk := Lib.hid fk
    have Bx := Lib.hid bx
    have Bz := Lib.hid bz
    by_cases hlt : k < L.length
    · obtain ⟨b, _, x, hv, hx, d0, d1, hby⟩ := (K.out.fr fk (by simp) (by simp)).at_ hlt
      injection hv with hv _ hc
      subst hv hc
      obtain ⟨A, c, hxv, _, _⟩ := hby.form
      rw [hxv] at d1
      have hp := HPC.out x (List.mem_of_getElem? hx)
      have hg : (L.map (·.1))[k]? = some x.1 := by simp [hx]
      have x0 := Grew.cell c2
      have x1 := Grew.cell d0
      have x2 := Grew.cell d1
      have hov : over a x.1 = decide (a < x.1.at_ + (x.1.d.length : Int)) := rfl
      have HG := Lib.hid hg
      have HO := Lib.hid hov
      clear hov hg hx hxv hby fk bx bz
      obtain ⟨hp0, hp1, hp2, hp3⟩ := hp
      by_cases ho : a < x.1.at_ + (x.1.d.length : Int)
      · go_upto_region 8 with fail
        refine wp_region_grew (by kernel_rfl) (by kernel_rfl) ?_
        repeat (go_big_quiet_step (fail))
        refine wpQuiet_nil ?_
        intro W1 f1
        have bz1 := Bz.out.fr f1 (by simp)
        obtain ⟨e0, e1, e2, e3⟩ := cells4 (Bx.out.fr f1 (by simp))
        have F1 := Lib.hid (Fk.out.trans f1 (by simp))
        have BZ1 := Lib.hid bz1
        clear bz1 f1 x0 x1 x2
        go_wp2_with ((with_reducible refine gate_store 31 (.tmp 4) ?_); refine wpList_store_blk rfl 31 (.tmp 4) (.tmp 53) rfl (w.heap.size + 1) 31 (arR 0 0 (.slice none 0 0) 0) (arR m n (.slice (some ⟨b, 0, none⟩) L.length KC) f) rfl rfl BZ1.out rfl (by kernel_rfl) (by simp [Value.oneCell']) ?_; intro w2 B3 F3)
        obtain ⟨r0, r1, r2, r3⟩ := cells4 B3
        refine bodyPost_ret (v := .tuple #[agR m n (.slice (some ⟨b, 0, none⟩) L.length KC) f, .int .i64 250]) (by simp [results, Try.results24, go_sem, r0, r1, r2, r3]) rfl ?_
        have hyes : (L.map (·.1)).any (over a) = true := List.any_eq_true.2 ⟨x.1, List.mem_of_getElem? HG.out, by rw [HO.out]; simpa using ho⟩
        unfold REndsIf
        rw [hyes]
        exact ⟨rfl, F1.out.trans F3 (by simp)⟩
      · go_upto_region 8 with fail
        refine wp_region_grew (by kernel_rfl) (by kernel_rfl) ?_
        repeat (go_big_quiet_step (fail))
        refine wpQuiet_nil ?_
        intro W1 f1
        go_wp2_with fail
        go_roundw
        case rel => exact ⟨k + 1, by simp; omega, by go_num, by rw [any_take _ _ _ _ HG.out, HA.out, HO.out]; simpa using ho, Fk.out.trans f1 (by simp), Bx.out.fr f1 (by simp), Bz.out.fr f1 (by simp)⟩
        case measure => simp [intOf]; omega
    · obtain rfl : L.length = k := by omega
      have hno : (L.map (·.1)).any (over a) = false := by
        have := HA.out
        rwa [List.take_of_length_le (by simp)] at this
      have HN := Lib.hid hno
      have bxl := bx.lt
      have bxf := bx.frozen 3
      have bs := bx.set_ 3 (.int .i64 a)
      have fs := (Fr.refl [w.heap.size] wr).setCell (p := ⟨w.heap.size, 3, none⟩) (.inl (by simp)) (.int .i64 a)
      have bz2 := Lib.hid (bz.fr fs (by simp))
      have F2 := Lib.hid (Fk.out.trans fs (by simp))
      clear hno fk bx bz bs fs
      go_wp2_with ((with_reducible refine gate_store 31 (.tmp 4) ?_); refine wpList_store_blk rfl 31 (.tmp 4) (.tmp 56) rfl (w.heap.size + 1) 31 (arR 0 0 (.slice none 0 0) 0) (arR m n (.slice KA L.length KC) a) rfl rfl bz2.out rfl (by kernel_rfl) (by simp [Value.oneCell']) ?_; intro w2 B3 F3)
      obtain ⟨r0, r1, r2, r3⟩ := cells4 B3
      refine bodyPost_ret (v := .tuple #[agR m n (.slice KA L.length KC) a, .int .i64 0]) (by simp [results, Try.results24, go_sem, r0, r1, r2, r3]) rfl ?_
      unfold REndsIf
      rw [HN.out]
      exact ⟨rfl, F2.out.trans F3 (by simp)⟩
theorem rends {S : Nat → Prop} {w : World} {kv : Value} {h : Hp} {L : List (Pc × Value)} (r : RPx S w kv h L) (hi : Inv h) (a : Int) : Calls Try.prog 24 #[agH h kv, .int .i64 a] w (REndsPost w (agH (endV h a).1 kv) (endV h a).2) := by
  have hL : L.length ≤ 64 := by have h1 := hi.len; have h2 := hi.m1; rw [r.kept, List.length_map] at h1; omega
  have hpc : ∀ x ∈ L, 0 ≤ x.1.at_ ∧ x.1.at_ ≤ 4611686018427387904 ∧ 1 ≤ x.1.d.length ∧ x.1.d.length ≤ 64 := fun x hx => hi.pc x.1 (by rw [r.kept]; exact List.mem_map.2 ⟨x, hx, rfl⟩)
  unfold endV
  by_cases g0 : a < 0
  · rw [if_pos (.inl g0)]
    exact rends_0 S w _ _ _ kv L r.kp hL a g0
  by_cases g1 : 4611686018427387904 < a
  · rw [if_pos (.inr g1)]
    exact rends_1 S w _ _ _ kv L r.kp hL a g1
  rw [if_neg (by omega)]
  have hfin := hi.fin
  cases hf : h.fin with
  | none =>
    have e1 : other none a = false := rfl
    rw [e1, Bool.false_or]
    by_cases g4 : a < h.next
    · rw [if_pos (by simp [g4])]
      unfold agH
      rw [hf]
      exact rends_3 S w _ _ _ kv L r.kp hL a (by omega) (by omega) (by decide) g4
    · have e2 : decide (a < h.next) = false := by simpa using g4
      rw [e2, Bool.false_or]
      have := rends_5 S w h.most h.next (-1) kv L r.kp hL a hpc (by omega) (by omega) (by decide) (by omega)
      unfold REndsIf at this
      rw [← r.kept] at this
      unfold agH
      rw [hf]
      split
      · rename_i hc
        rw [if_pos hc, if_pos hc] at this
        dsimp only
        rw [hf]
        exact this
      · rename_i hc
        rw [if_neg hc, if_neg hc] at this
        exact this
  | some fa =>
    have hfa := hfin fa hf
    have e1 : other (some fa) a = !(fa == a) := rfl
    rw [e1]
    cases hfb : (fa == a)
    · rw [if_pos (by simp)]
      unfold agH
      rw [hf]
      exact rends_2 S w _ _ _ kv L r.kp hL a (by omega) (by omega) hfa.1 hfb (bne_of hfb)
    · rw [Bool.not_true, Bool.false_or]
      by_cases g4 : a < h.next
      · rw [if_pos (by simp [g4])]
        unfold agH
        rw [hf]
        exact rends_4 S w _ _ _ kv L r.kp hL a (by omega) (by omega) hfa.1 hfb (bne_of hfb) g4
      · have e2 : decide (a < h.next) = false := by simpa using g4
        rw [e2, Bool.false_or]
        have := rends_6 S w h.most h.next fa kv L r.kp hL a hpc (by omega) (by omega) hfa.1 hfb (bne_of hfb) (by omega)
        unfold REndsIf at this
        rw [← r.kept] at this
        unfold agH
        rw [hf]
        split
        · rename_i hc
          rw [if_pos hc, if_pos hc] at this
          dsimp only
          rw [hf]
          exact this
        · rename_i hc
          rw [if_neg hc, if_neg hc] at this
          exact this
end Go.Proofs.Ytdlmhadcaagokaa
