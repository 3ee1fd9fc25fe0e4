import Derived.Test.YtdlmhadcaagokaaP
import Derived.Deep.DeepCutAuto
namespace Go.Proofs.Ytdlmhadcaagokaa
open Go.RowKit Go.Deep

def RPutPost (S : Nat → Prop) (w : World) (h' : Hp) (out : List Int) (err : Int) (e : Ending) (w' : World) : Prop :=
  ∃ S' kv' A c L', e = .returned (.tuple #[agH h' kv', .slice A out.length c, .int .i64 err]) ∧ Ext w S S' ∧ Byt S' w' (.slice A out.length c) out ∧ RPx S' w' kv' h' L' ∧ Fr [] w w'
theorem rput_same {S : Nat → Prop} {w w' : World} {kv : Value} {h : Hp} {L : List (Pc × Value)} (r : RPx S w kv h L) (f : Fr [] w w') (err : Int) : RPutPost S w h [] err (.returned (.tuple #[agH h kv, .slice none 0 0, .int .i64 err])) w' :=
  ⟨S, kv, none, 0, L, rfl, Ext.refl _ _, Byt.nil, r.ext f (by simp) (fun _ h => h) (fun b hb => Nat.lt_of_lt_of_le (r.pub b hb) f.size), f⟩
def RLoopRel (w : World) (ar : Array Value) (a : Int) (dl : Nat) (l : List Pc) (s16 : Value) (wr : World) : Prop :=
  ∃ k : Nat, k ≤ l.length ∧ s16 = .int .i64 k ∧ (l.take k).any (longer a dl) = false ∧ Fr [] w wr ∧ Blk wr w.heap.size 31 ar ∧ Blk wr (w.heap.size + 1) 31 (arR 0 0 (.slice none 0 0) 0)
set_option maxRecDepth 100000 in
set_option maxHeartbeats 2000000 in
theorem rput_arg0 {S : Nat → Prop} {w : World} {kv : Value} {h : Hp} {L : List (Pc × Value)} (r : RPx S w kv h L) (a : Int) (dv : Value) (d : List Int) (T : Nat → Prop) (hd : Byt T w dv d) (hl : d.length ≤ 1000000) (hL : L.length ≤ 64) (h0 : a < 0) :
    Calls Try.prog 23 #[agH h kv, .int .i64 a, dv] w (RPutPost S w h [] 2) := by
  obtain ⟨KA, KC, rfl, hKn, hKc⟩ := r.kp.form
  obtain ⟨DA, DC, rfl, hdn, hdc⟩ := hd.form
  have r := Lib.hid r
  have hd := Lib.hid hd
  have b0 := (Blk.new w 31 (arR h.most h.next (.slice KA L.length KC) (finI h.fin))).alloc (.cells (arR 0 0 (.slice none 0 0) 0) 31)
  have b1 : Blk ((w.alloc (.cells (arR h.most h.next (.slice KA L.length KC) (finI h.fin)) 31)).alloc (.cells (arR 0 0 (.slice none 0 0) 0) 31)) (w.heap.size + 1) 31 (arR 0 0 (.slice none 0 0) 0) := by simpa using Blk.new (w.alloc (.cells (arR h.most h.next (.slice KA L.length KC) (finI h.fin)) 31)) 31 (arR 0 0 (.slice none 0 0) 0)
  have f0 : Fr [] w ((w.alloc (.cells (arR h.most h.next (.slice KA L.length KC) (finI h.fin)) 31)).alloc (.cells (arR 0 0 (.slice none 0 0) 0) 31)) := ((Fr.refl _ _).alloc _).alloc _
  have B0 := Lib.hid b0
  have B1 := Lib.hid b1
  have F0 := Lib.hid f0
  clear b0 b1 f0
  go_enter Try.func23, Try.ntmps23
  go_wp2_with ((with_reducible refine gate_store 31 (.tmp 6) ?_); refine wpList_store_blk rfl 31 (.tmp 6) (.tmp 33) rfl (w.heap.size + 1) 31 (arR 0 0 (.slice none 0 0) 0) (arR h.most h.next (.slice KA L.length KC) (finI h.fin)) rfl rfl B1.out rfl (by kernel_rfl) (by simp [Value.oneCell']) ?_; intro w2 B3 F3)
  obtain ⟨r0, r1, r2, r3⟩ := cells4 B3
  refine bodyPost_ret (v := .tuple #[agR h.most h.next (.slice KA L.length KC) (finI h.fin), .slice none 0 0, .int .i64 2]) (by simp [results, Try.results23, go_sem, r0, r1, r2, r3]) rfl ?_
  exact rput_same r.out (F0.out.trans F3 (by simp)) 2
set_option maxRecDepth 100000 in
set_option maxHeartbeats 2000000 in
theorem rput_arg1 {S : Nat → Prop} {w : World} {kv : Value} {h : Hp} {L : List (Pc × Value)} (r : RPx S w kv h L) (a : Int) (dv : Value) (d : List Int) (T : Nat → Prop) (hd : Byt T w dv d) (hl : d.length ≤ 1000000) (hL : L.length ≤ 64) (h0 : 4611686018427387904 < a) :
    Calls Try.prog 23 #[agH h kv, .int .i64 a, dv] w (RPutPost S w h [] 2) := by
  obtain ⟨KA, KC, rfl, hKn, hKc⟩ := r.kp.form
  obtain ⟨DA, DC, rfl, hdn, hdc⟩ := hd.form
  have r := Lib.hid r
  have hd := Lib.hid hd
  have b0 := (Blk.new w 31 (arR h.most h.next (.slice KA L.length KC) (finI h.fin))).alloc (.cells (arR 0 0 (.slice none 0 0) 0) 31)
  have b1 : Blk ((w.alloc (.cells (arR h.most h.next (.slice KA L.length KC) (finI h.fin)) 31)).alloc (.cells (arR 0 0 (.slice none 0 0) 0) 31)) (w.heap.size + 1) 31 (arR 0 0 (.slice none 0 0) 0) := by simpa using Blk.new (w.alloc (.cells (arR h.most h.next (.slice KA L.length KC) (finI h.fin)) 31)) 31 (arR 0 0 (.slice none 0 0) 0)
  have f0 : Fr [] w ((w.alloc (.cells (arR h.most h.next (.slice KA L.length KC) (finI h.fin)) 31)).alloc (.cells (arR 0 0 (.slice none 0 0) 0) 31)) := ((Fr.refl _ _).alloc _).alloc _
  have B0 := Lib.hid b0
  have B1 := Lib.hid b1
  have F0 := Lib.hid f0
  clear b0 b1 f0
  go_enter Try.func23, Try.ntmps23
  go_wp2_with ((with_reducible refine gate_store 31 (.tmp 6) ?_); refine wpList_store_blk rfl 31 (.tmp 6) (.tmp 33) rfl (w.heap.size + 1) 31 (arR 0 0 (.slice none 0 0) 0) (arR h.most h.next (.slice KA L.length KC) (finI h.fin)) rfl rfl B1.out rfl (by kernel_rfl) (by simp [Value.oneCell']) ?_; intro w2 B3 F3)
  obtain ⟨r0, r1, r2, r3⟩ := cells4 B3
  refine bodyPost_ret (v := .tuple #[agR h.most h.next (.slice KA L.length KC) (finI h.fin), .slice none 0 0, .int .i64 2]) (by simp [results, Try.results23, go_sem, r0, r1, r2, r3]) rfl ?_
  exact rput_same r.out (F0.out.trans F3 (by simp)) 2
set_option maxRecDepth 100000 in
set_option maxHeartbeats 2000000 in
theorem rput_arg2 {S : Nat → Prop} {w : World} {kv : Value} {h : Hp} {L : List (Pc × Value)} (r : RPx S w kv h L) (a : Int) (dv : Value) (d : List Int) (T : Nat → Prop) (hd : Byt T w dv d) (hl : d.length ≤ 1000000) (hL : L.length ≤ 64) (h0 : 0 ≤ a) (h1 : a ≤ 4611686018427387904) (h2 : d.length < 1) :
    Calls Try.prog 23 #[agH h kv, .int .i64 a, dv] w (RPutPost S w h [] 2) := by
  obtain ⟨KA, KC, rfl, hKn, hKc⟩ := r.kp.form
  obtain ⟨DA, DC, rfl, hdn, hdc⟩ := hd.form
  have r := Lib.hid r
  have hd := Lib.hid hd
  have b0 := (Blk.new w 31 (arR h.most h.next (.slice KA L.length KC) (finI h.fin))).alloc (.cells (arR 0 0 (.slice none 0 0) 0) 31)
  have b1 : Blk ((w.alloc (.cells (arR h.most h.next (.slice KA L.length KC) (finI h.fin)) 31)).alloc (.cells (arR 0 0 (.slice none 0 0) 0) 31)) (w.heap.size + 1) 31 (arR 0 0 (.slice none 0 0) 0) := by simpa using Blk.new (w.alloc (.cells (arR h.most h.next (.slice KA L.length KC) (finI h.fin)) 31)) 31 (arR 0 0 (.slice none 0 0) 0)
  have f0 : Fr [] w ((w.alloc (.cells (arR h.most h.next (.slice KA L.length KC) (finI h.fin)) 31)).alloc (.cells (arR 0 0 (.slice none 0 0) 0) 31)) := ((Fr.refl _ _).alloc _).alloc _
  have B0 := Lib.hid b0
  have B1 := Lib.hid b1
  have F0 := Lib.hid f0
  clear b0 b1 f0
  go_enter Try.func23, Try.ntmps23
  go_wp2_with ((with_reducible refine gate_store 31 (.tmp 6) ?_); refine wpList_store_blk rfl 31 (.tmp 6) (.tmp 33) rfl (w.heap.size + 1) 31 (arR 0 0 (.slice none 0 0) 0) (arR h.most h.next (.slice KA L.length KC) (finI h.fin)) rfl rfl B1.out rfl (by kernel_rfl) (by simp [Value.oneCell']) ?_; intro w2 B3 F3)
  obtain ⟨r0, r1, r2, r3⟩ := cells4 B3
  refine bodyPost_ret (v := .tuple #[agR h.most h.next (.slice KA L.length KC) (finI h.fin), .slice none 0 0, .int .i64 2]) (by simp [results, Try.results23, go_sem, r0, r1, r2, r3]) rfl ?_
  exact rput_same r.out (F0.out.trans F3 (by simp)) 2
set_option maxRecDepth 100000 in
set_option maxHeartbeats 2000000 in
theorem rput_arg3 {S : Nat → Prop} {w : World} {kv : Value} {h : Hp} {L : List (Pc × Value)} (r : RPx S w kv h L) (a : Int) (dv : Value) (d : List Int) (T : Nat → Prop) (hd : Byt T w dv d) (hl : d.length ≤ 1000000) (hL : L.length ≤ 64) (h0 : 0 ≤ a) (h1 : a ≤ 4611686018427387904) (h2 : 1 ≤ d.length) (h3 : 64 < d.length) :
    Calls Try.prog 23 #[agH h kv, .int .i64 a, dv] w (RPutPost S w h [] 2) := by
  obtain ⟨KA, KC, rfl, hKn, hKc⟩ := r.kp.form
  obtain ⟨DA, DC, rfl, hdn, hdc⟩ := hd.form
  have r := Lib.hid r
  have hd := Lib.hid hd
  have b0 := (Blk.new w 31 (arR h.most h.next (.slice KA L.length KC) (finI h.fin))).alloc (.cells (arR 0 0 (.slice none 0 0) 0) 31)
  have b1 : Blk ((w.alloc (.cells (arR h.most h.next (.slice KA L.length KC) (finI h.fin)) 31)).alloc (.cells (arR 0 0 (.slice none 0 0) 0) 31)) (w.heap.size + 1) 31 (arR 0 0 (.slice none 0 0) 0) := by simpa using Blk.new (w.alloc (.cells (arR h.most h.next (.slice KA L.length KC) (finI h.fin)) 31)) 31 (arR 0 0 (.slice none 0 0) 0)
  have f0 : Fr [] w ((w.alloc (.cells (arR h.most h.next (.slice KA L.length KC) (finI h.fin)) 31)).alloc (.cells (arR 0 0 (.slice none 0 0) 0) 31)) := ((Fr.refl _ _).alloc _).alloc _
  have B0 := Lib.hid b0
  have B1 := Lib.hid b1
  have F0 := Lib.hid f0
  clear b0 b1 f0
  go_enter Try.func23, Try.ntmps23
  go_wp2_with ((with_reducible refine gate_store 31 (.tmp 6) ?_); refine wpList_store_blk rfl 31 (.tmp 6) (.tmp 33) rfl (w.heap.size + 1) 31 (arR 0 0 (.slice none 0 0) 0) (arR h.most h.next (.slice KA L.length KC) (finI h.fin)) rfl rfl B1.out rfl (by kernel_rfl) (by simp [Value.oneCell']) ?_; intro w2 B3 F3)
  obtain ⟨r0, r1, r2, r3⟩ := cells4 B3
  refine bodyPost_ret (v := .tuple #[agR h.most h.next (.slice KA L.length KC) (finI h.fin), .slice none 0 0, .int .i64 2]) (by simp [results, Try.results23, go_sem, r0, r1, r2, r3]) rfl ?_
  exact rput_same r.out (F0.out.trans F3 (by simp)) 2
set_option maxRecDepth 100000 in
set_option maxHeartbeats 2000000 in
theorem rput_past {S : Nat → Prop} {w : World} {kv : Value} {h : Hp} {L : List (Pc × Value)} (r : RPx S w kv h L) (a : Int) (dv : Value) (d : List Int) (T : Nat → Prop) (hd : Byt T w dv d) (hl : d.length ≤ 1000000) (hL : L.length ≤ 64) (h0 : 0 ≤ a) (h1 : a ≤ 4611686018427387904) (h2 : 1 ≤ d.length) (h3 : d.length ≤ 64) (h4 : 0 ≤ finI h.fin) (h5 : finI h.fin < a + d.length) :
    Calls Try.prog 23 #[agH h kv, .int .i64 a, dv] w (RPutPost S w h [] 250) := by
  obtain ⟨KA, KC, rfl, hKn, hKc⟩ := r.kp.form
  obtain ⟨DA, DC, rfl, hdn, hdc⟩ := hd.form
  have r := Lib.hid r
  have hd := Lib.hid hd
  have b0 := (Blk.new w 31 (arR h.most h.next (.slice KA L.length KC) (finI h.fin))).alloc (.cells (arR 0 0 (.slice none 0 0) 0) 31)
  have b1 : Blk ((w.alloc (.cells (arR h.most h.next (.slice KA L.length KC) (finI h.fin)) 31)).alloc (.cells (arR 0 0 (.slice none 0 0) 0) 31)) (w.heap.size + 1) 31 (arR 0 0 (.slice none 0 0) 0) := by simpa using Blk.new (w.alloc (.cells (arR h.most h.next (.slice KA L.length KC) (finI h.fin)) 31)) 31 (arR 0 0 (.slice none 0 0) 0)
  have f0 : Fr [] w ((w.alloc (.cells (arR h.most h.next (.slice KA L.length KC) (finI h.fin)) 31)).alloc (.cells (arR 0 0 (.slice none 0 0) 0) 31)) := ((Fr.refl _ _).alloc _).alloc _
  have B0 := Lib.hid b0
  have B1 := Lib.hid b1
  have F0 := Lib.hid f0
  clear b0 b1 f0
  go_enter Try.func23, Try.ntmps23
  go_wp2_with ((with_reducible refine gate_store 31 (.tmp 6) ?_); refine wpList_store_blk rfl 31 (.tmp 6) (.tmp 47) rfl (w.heap.size + 1) 31 (arR 0 0 (.slice none 0 0) 0) (arR h.most h.next (.slice KA L.length KC) (finI h.fin)) rfl rfl B1.out rfl (by kernel_rfl) (by simp [Value.oneCell']) ?_; intro w2 B3 F3)
  obtain ⟨r0, r1, r2, r3⟩ := cells4 B3
  refine bodyPost_ret (v := .tuple #[agR h.most h.next (.slice KA L.length KC) (finI h.fin), .slice none 0 0, .int .i64 250]) (by simp [results, Try.results23, go_sem, r0, r1, r2, r3]) rfl ?_
  exact rput_same r.out (F0.out.trans F3 (by simp)) 250
set_option maxRecDepth 100000 in
set_option maxHeartbeats 2000000 in
theorem rput_low {S : Nat → Prop} {w : World} {kv : Value} {h : Hp} {L : List (Pc × Value)} (r : RPx S w kv h L) (a : Int) (dv : Value) (d : List Int) (T : Nat → Prop) (hd : Byt T w dv d) (hl : d.length ≤ 1000000) (hL : L.length ≤ 64) (h0 : 0 ≤ a) (h1 : a ≤ 4611686018427387904) (h2 : 1 ≤ d.length) (h3 : d.length ≤ 64) (h4 : finI h.fin < 0 ∨ (0 ≤ finI h.fin ∧ a + (d.length : Int) ≤ finI h.fin)) (h5 : a + d.length ≤ h.next) :
    Calls Try.prog 23 #[agH h kv, .int .i64 a, dv] w (RPutPost S w h [] 0) := by
  obtain ⟨KA, KC, rfl, hKn, hKc⟩ := r.kp.form
  obtain ⟨DA, DC, rfl, hdn, hdc⟩ := hd.form
  have r := Lib.hid r
  have hd := Lib.hid hd
  have b0 := (Blk.new w 31 (arR h.most h.next (.slice KA L.length KC) (finI h.fin))).alloc (.cells (arR 0 0 (.slice none 0 0) 0) 31)
  have b1 : Blk ((w.alloc (.cells (arR h.most h.next (.slice KA L.length KC) (finI h.fin)) 31)).alloc (.cells (arR 0 0 (.slice none 0 0) 0) 31)) (w.heap.size + 1) 31 (arR 0 0 (.slice none 0 0) 0) := by simpa using Blk.new (w.alloc (.cells (arR h.most h.next (.slice KA L.length KC) (finI h.fin)) 31)) 31 (arR 0 0 (.slice none 0 0) 0)
  have f0 : Fr [] w ((w.alloc (.cells (arR h.most h.next (.slice KA L.length KC) (finI h.fin)) 31)).alloc (.cells (arR 0 0 (.slice none 0 0) 0) 31)) := ((Fr.refl _ _).alloc _).alloc _
  have B0 := Lib.hid b0
  have B1 := Lib.hid b1
  have F0 := Lib.hid f0
  clear b0 b1 f0
  rcases h4 with h4 | ⟨h4, h4b⟩
  all_goals
    go_enter Try.func23, Try.ntmps23
    go_wp2_with ((with_reducible refine gate_store 31 (.tmp 6) ?_); refine wpList_store_blk rfl 31 (.tmp 6) (.tmp 52) rfl (w.heap.size + 1) 31 (arR 0 0 (.slice none 0 0) 0) (arR h.most h.next (.slice KA L.length KC) (finI h.fin)) rfl rfl B1.out rfl (by kernel_rfl) (by simp [Value.oneCell']) ?_; intro w2 B3 F3)
    obtain ⟨r0, r1, r2, r3⟩ := cells4 B3
    refine bodyPost_ret (v := .tuple #[agR h.most h.next (.slice KA L.length KC) (finI h.fin), .slice none 0 0, .int .i64 0]) (by simp [results, Try.results23, go_sem, r0, r1, r2, r3]) rfl ?_
    exact rput_same r.out (F0.out.trans F3 (by simp)) 0
set_option maxRecDepth 100000 in
set_option maxHeartbeats 2000000 in
theorem rput_longer {S : Nat → Prop} {w : World} {kv : Value} {h : Hp} {L : List (Pc × Value)} (r : RPx S w kv h L) (a : Int) (dv : Value) (d : List Int) (T : Nat → Prop) (hd : Byt T w dv d) (hl : d.length ≤ 1000000) (hL : L.length ≤ 64) (h0 : 0 ≤ a) (h1 : a ≤ 4611686018427387904) (h2 : 1 ≤ d.length) (h3 : d.length ≤ 64) (h4 : finI h.fin < 0 ∨ (0 ≤ finI h.fin ∧ a + (d.length : Int) ≤ finI h.fin)) (h5 : h.next < a) (hany : h.kept.any (longer a d.length) = true) :
    Calls Try.prog 23 #[agH h kv, .int .i64 a, dv] w (RPutPost S w h [] 0) := by
  obtain ⟨KA, KC, rfl, hKn, hKc⟩ := r.kp.form
  obtain ⟨DA, DC, rfl, hdn, hdc⟩ := hd.form
  have r := Lib.hid r
  have hd := Lib.hid hd
  have b0 := (Blk.new w 31 (arR h.most h.next (.slice KA L.length KC) (finI h.fin))).alloc (.cells (arR 0 0 (.slice none 0 0) 0) 31)
  have b1 : Blk ((w.alloc (.cells (arR h.most h.next (.slice KA L.length KC) (finI h.fin)) 31)).alloc (.cells (arR 0 0 (.slice none 0 0) 0) 31)) (w.heap.size + 1) 31 (arR 0 0 (.slice none 0 0) 0) := by simpa using Blk.new (w.alloc (.cells (arR h.most h.next (.slice KA L.length KC) (finI h.fin)) 31)) 31 (arR 0 0 (.slice none 0 0) 0)
  have f0 : Fr [] w ((w.alloc (.cells (arR h.most h.next (.slice KA L.length KC) (finI h.fin)) 31)).alloc (.cells (arR 0 0 (.slice none 0 0) 0) 31)) := ((Fr.refl _ _).alloc _).alloc _
  have B0 := Lib.hid b0
  have B1 := Lib.hid b1
  have F0 := Lib.hid f0
  clear b0 b1 f0
  rw [r.out.kept] at hany
  have HANY := Lib.hid hany
  clear hany
  rcases h4 with h4 | ⟨h4, h4b⟩
  all_goals
    go_enter Try.func23, Try.ntmps23
    go_wp2
    go_loopw [16] (fun s16 wr => RLoopRel w (arR h.most h.next (.slice KA L.length KC) (finI h.fin)) a d.length (L.map (·.1)) s16 wr) (fun s16 _ => L.length - (intOf s16).toNat)
    case atStart => exact ⟨0, by omega, rfl, rfl, F0.out, B0.out, B1.out⟩
    case round =>
      obtain ⟨k, hk, rfl, hany, fk, bx, bz⟩ := hrel
      rw [List.length_map] at hk
      obtain ⟨c0, c1, c2, c3⟩ := cells4 bx
      have HA := Lib.hid hany
      clear hany
      have Fk := Lib.hid fk
      have Bx := Lib.hid bx
      have Bz := Lib.hid bz
      by_cases hlt : k < L.length
      · obtain ⟨b, _, x, hv, hx, d0, d1, hby⟩ := (r.out.kp.fr fk (by simp) (by simp)).at_ hlt
        injection hv with hv _ hc
        subst hv hc
        obtain ⟨A, c, hxv, _, _⟩ := hby.form
        rw [hxv] at d1
        have hg : (L.map (·.1))[k]? = some x.1 := by simp [hx]
        have hov : longer a d.length x.1 = ((x.1.at_ == a) && decide (d.length ≤ x.1.d.length)) := rfl
        have HG := Lib.hid hg
        have HO := Lib.hid hov
        clear hov hg hx hxv hby fk bx bz
        have hl1 := World.block_lt_of_cell? wr _ d0
        cases hat : (x.1.at_ == a)
        · go_wp2_with fail
          go_roundw
          case rel => exact ⟨k + 1, by simp; omega, by go_num, by rw [any_take _ _ _ _ HG.out, HA.out, HO.out]; simp [hat], Fk.out, Bx.out, Bz.out⟩
          case measure => simp [intOf]; omega
        · by_cases hdl : d.length ≤ x.1.d.length
          · have hyes : (L.map (·.1)).any (longer a d.length) = true := List.any_eq_true.2 ⟨x.1, List.mem_of_getElem? HG.out, by rw [HO.out]; simp [hat, hdl]⟩
            have hno : (L.map (·.1)).any (longer a d.length) = true := HANY.out
            clear hyes hno
            go_wp2_with ((with_reducible refine gate_store 31 (.tmp 6) ?_); refine wpList_store_blk rfl 31 (.tmp 6) (.tmp 126) rfl (w.heap.size + 1) 31 (arR 0 0 (.slice none 0 0) 0) (arR h.most h.next (.slice (some ⟨b, 0, none⟩) L.length KC) (finI h.fin)) rfl rfl Bz.out rfl (by kernel_rfl) (by simp [Value.oneCell']) ?_; intro w2 B3 F3)
            obtain ⟨r0, r1, r2, r3⟩ := cells4 B3
            refine bodyPost_ret (v := .tuple #[agR h.most h.next (.slice (some ⟨b, 0, none⟩) L.length KC) (finI h.fin), .slice none 0 0, .int .i64 0]) (by simp [results, Try.results23, go_sem, r0, r1, r2, r3]) rfl ?_
            exact rput_same r.out (Fk.out.trans F3 (by simp)) 0
          · go_wp2_with fail
            go_roundw
            case rel => exact ⟨k + 1, by simp; omega, by go_num, by rw [any_take _ _ _ _ HG.out, HA.out, HO.out]; simp [hdl], Fk.out, Bx.out, Bz.out⟩
            case measure => simp [intOf]; omega
      · obtain rfl : L.length = k := by omega
        have hno : (L.map (·.1)).any (longer a d.length) = false := by
          have := HA.out
          rwa [List.take_of_length_le (by simp)] at this
        clear fk bx bz
        rw [HANY.out] at hno
        cases hno
set_option maxRecDepth 100000 in
set_option maxHeartbeats 2000000 in
theorem rput_full {S : Nat → Prop} {w : World} {kv : Value} {h : Hp} {L : List (Pc × Value)} (r : RPx S w kv h L) (a : Int) (dv : Value) (d : List Int) (T : Nat → Prop) (hd : Byt T w dv d) (hl : d.length ≤ 1000000) (hL : L.length ≤ 64) (h0 : 0 ≤ a) (h1 : a ≤ 4611686018427387904) (h2 : 1 ≤ d.length) (h3 : d.length ≤ 64) (h4 : finI h.fin < 0 ∨ (0 ≤ finI h.fin ∧ a + (d.length : Int) ≤ finI h.fin)) (h5 : h.next < a) (hany : h.kept.any (longer a d.length) = false) (hm : h.most ≤ (L.length : Int)) :
    Calls Try.prog 23 #[agH h kv, .int .i64 a, dv] w (RPutPost S w h [] 251) := by
  obtain ⟨KA, KC, rfl, hKn, hKc⟩ := r.kp.form
  obtain ⟨DA, DC, rfl, hdn, hdc⟩ := hd.form
  have r := Lib.hid r
  have hd := Lib.hid hd
  have b0 := (Blk.new w 31 (arR h.most h.next (.slice KA L.length KC) (finI h.fin))).alloc (.cells (arR 0 0 (.slice none 0 0) 0) 31)
  have b1 : Blk ((w.alloc (.cells (arR h.most h.next (.slice KA L.length KC) (finI h.fin)) 31)).alloc (.cells (arR 0 0 (.slice none 0 0) 0) 31)) (w.heap.size + 1) 31 (arR 0 0 (.slice none 0 0) 0) := by simpa using Blk.new (w.alloc (.cells (arR h.most h.next (.slice KA L.length KC) (finI h.fin)) 31)) 31 (arR 0 0 (.slice none 0 0) 0)
  have f0 : Fr [] w ((w.alloc (.cells (arR h.most h.next (.slice KA L.length KC) (finI h.fin)) 31)).alloc (.cells (arR 0 0 (.slice none 0 0) 0) 31)) := ((Fr.refl _ _).alloc _).alloc _
  have B0 := Lib.hid b0
  have B1 := Lib.hid b1
  have F0 := Lib.hid f0
  clear b0 b1 f0
  rw [r.out.kept] at hany
  have HANY := Lib.hid hany
  clear hany
  rcases h4 with h4 | ⟨h4, h4b⟩
  all_goals
    go_enter Try.func23, Try.ntmps23
    go_wp2
    go_loopw [16] (fun s16 wr => RLoopRel w (arR h.most h.next (.slice KA L.length KC) (finI h.fin)) a d.length (L.map (·.1)) s16 wr) (fun s16 _ => L.length - (intOf s16).toNat)
    case atStart => exact ⟨0, by omega, rfl, rfl, F0.out, B0.out, B1.out⟩
    case round =>
      obtain ⟨k, hk, rfl, hany, fk, bx, bz⟩ := hrel
      rw [List.length_map] at hk
      obtain ⟨c0, c1, c2, c3⟩ := cells4 bx
      have HA := Lib.hid hany
      clear hany
      have Fk := Lib.hid fk
      have Bx := Lib.hid bx
      have Bz := Lib.hid bz
      by_cases hlt : k < L.length
      · obtain ⟨b, _, x, hv, hx, d0, d1, hby⟩ := (r.out.kp.fr fk (by simp) (by simp)).at_ hlt
        injection hv with hv _ hc
        subst hv hc
        obtain ⟨A, c, hxv, _, _⟩ := hby.form
        rw [hxv] at d1
        have hg : (L.map (·.1))[k]? = some x.1 := by simp [hx]
        have hov : longer a d.length x.1 = ((x.1.at_ == a) && decide (d.length ≤ x.1.d.length)) := rfl
        have HG := Lib.hid hg
        have HO := Lib.hid hov
        clear hov hg hx hxv hby fk bx bz
        have hl1 := World.block_lt_of_cell? wr _ d0
        cases hat : (x.1.at_ == a)
        · go_wp2_with fail
          go_roundw
          case rel => exact ⟨k + 1, by simp; omega, by go_num, by rw [any_take _ _ _ _ HG.out, HA.out, HO.out]; simp [hat], Fk.out, Bx.out, Bz.out⟩
          case measure => simp [intOf]; omega
        · by_cases hdl : d.length ≤ x.1.d.length
          · have hyes : (L.map (·.1)).any (longer a d.length) = true := List.any_eq_true.2 ⟨x.1, List.mem_of_getElem? HG.out, by rw [HO.out]; simp [hat, hdl]⟩
            have hno : (L.map (·.1)).any (longer a d.length) = false := HANY.out
            rw [hyes] at hno
            cases hno
          · go_wp2_with fail
            go_roundw
            case rel => exact ⟨k + 1, by simp; omega, by go_num, by rw [any_take _ _ _ _ HG.out, HA.out, HO.out]; simp [hdl], Fk.out, Bx.out, Bz.out⟩
            case measure => simp [intOf]; omega
      · obtain rfl : L.length = k := by omega
        have hno : (L.map (·.1)).any (longer a d.length) = false := by
          have := HA.out
          rwa [List.take_of_length_le (by simp)] at this
        clear fk bx bz
        clear hno
        go_wp2_with ((with_reducible refine gate_store 31 (.tmp 6) ?_); refine wpList_store_blk rfl 31 (.tmp 6) (.tmp 133) rfl (w.heap.size + 1) 31 (arR 0 0 (.slice none 0 0) 0) (arR h.most h.next (.slice KA L.length KC) (finI h.fin)) rfl rfl Bz.out rfl (by kernel_rfl) (by simp [Value.oneCell']) ?_; intro w2 B3 F3)
        obtain ⟨r0, r1, r2, r3⟩ := cells4 B3
        refine bodyPost_ret (v := .tuple #[agR h.most h.next (.slice KA L.length KC) (finI h.fin), .slice none 0 0, .int .i64 251]) (by simp [results, Try.results23, go_sem, r0, r1, r2, r3]) rfl ?_
        exact rput_same r.out (Fk.out.trans F3 (by simp)) 251
end Go.Proofs.Ytdlmhadcaagokaa
