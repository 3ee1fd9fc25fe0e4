import Derived.Test.YtdlmhadcaagokaaDa
import Derived.Deep.DeepCutAuto
namespace Go.Proofs.Ytdlmhadcaagokaa
open Go.RowKit Go.Deep

theorem RPx.ends {S : Nat → Prop} {w : World} {kv : Value} {h : Hp} {L : List (Pc × Value)} (r : RPx S w kv h L) (a : Int) : RPx S w kv (endV h a).1 L := ⟨r.kp, (end_kept h a).trans r.kept, r.offk, r.pub⟩
theorem does_still {S : Nat → Prop} {w W0 w4 : World} {g : Nat} {kvi kvr : Value} {h : Hp} {L : List (Pc × Value)} (hi : Inv h) (m : HP S w g kvi h) (r : RPx S w kvr h L) (f0 : Fr [] w W0) (hz : W0.heap.size = w.heap.size + 1 + 1 + 1) (f4 : Fr [w.heap.size + 1 + 1] W0 w4)
    (T2 : ∀ x ∈ g :: ob kvi, x < w.heap.size) (pub : ∀ b, S b → b < w.heap.size) : DoesPost S w g kvi h (.returned (.tuple #[agH h kvr, .bool true])) w4 :=
  does_last hi (Ext.refl W0 S) hz (Ext.refl W0 S) (m.fr f0) (r.ext f0 (by simp) (fun _ h => h) (m.fr f0).pub) (f0.mono (by simp)) (Fr.refl [] W0) f4 (fun b hb => .inl hb) (Nat.le_refl _) T2 pub
set_option maxRecDepth 100000 in
set_option maxHeartbeats 4000000 in
theorem does_ends {S : Nat → Prop} {w : World} {g : Nat} {kvi kvr : Value} {h : Hp} (t : Two S w g kvi kvr h) (a : Int) (d : List Int) (near : Bool) (dv : Value) (T : Nat → Prop) (hd : Byt T w dv d) (hT : ∀ b, T b → b ∉ g :: ob kvi) (hl : d.length ≤ 100) :
    Calls Try.prog 12 #[ptr g, agH h kvr, .agg (arA 2 a dv near)] w (DoesPost S w g kvi (doesV h ⟨2, a, d, near, dv⟩)) := by
  have tt := t.off
  obtain ⟨hi, m, L, r⟩ := t
  obtain ⟨KA, KC, rfl, hKn, hKc⟩ := r.kp.form
  obtain ⟨DA, DC, rfl, hdn, hdc⟩ := hd.form
  obtain ⟨tt1, tt2⟩ := tt
  have hn0 := hi.n0
  have hn1 := hi.n1
  have f0 : Fr [] w (((w.alloc (.cells (arH h (.slice KA L.length KC)) 31)).alloc (.cells (arA 2 a (.slice DA d.length DC) near) 37)).alloc (.cells (arR 0 0 (.slice none 0 0) 0) 31)) := (((Fr.refl _ _).alloc _).alloc _).alloc _
  have b0 : Blk (((w.alloc (.cells (arH h (.slice KA L.length KC)) 31)).alloc (.cells (arA 2 a (.slice DA d.length DC) near) 37)).alloc (.cells (arR 0 0 (.slice none 0 0) 0) 31)) w.heap.size 31 (arH h (.slice KA L.length KC)) := ((Blk.new w 31 _).alloc _).alloc _
  have b1 : Blk (((w.alloc (.cells (arH h (.slice KA L.length KC)) 31)).alloc (.cells (arA 2 a (.slice DA d.length DC) near) 37)).alloc (.cells (arR 0 0 (.slice none 0 0) 0) 31)) (w.heap.size + 1) 37 (arA 2 a (.slice DA d.length DC) near) := by simpa using (Blk.new (w.alloc (.cells (arH h (.slice KA L.length KC)) 31)) 37 (arA 2 a (.slice DA d.length DC) near)).alloc (.cells (arR 0 0 (.slice none 0 0) 0) 31)
  have b2 : Blk (((w.alloc (.cells (arH h (.slice KA L.length KC)) 31)).alloc (.cells (arA 2 a (.slice DA d.length DC) near) 37)).alloc (.cells (arR 0 0 (.slice none 0 0) 0) 31)) (w.heap.size + 1 + 1) 31 (arR 0 0 (.slice none 0 0) 0) := by simpa using Blk.new ((w.alloc (.cells (arH h (.slice KA L.length KC)) 31)).alloc (.cells (arA 2 a (.slice DA d.length DC) near) 37)) 31 (arR 0 0 (.slice none 0 0) 0)
  have HPut : Hid (∀ W, Fr [] w W → ∀ p, Calls Try.prog 18 #[ptr g, .int .i64 p] W (EndPost S W g kvi (endV h p).1 (endV h p).2)) := Lib.hid (fun W f p => end_any (m.fr f) hi p)
  have F0 := Lib.hid f0
  have B0 := Lib.hid b0
  have B1 := Lib.hid b1
  have B2 := Lib.hid b2
  have M := Lib.hid m
  have R := Lib.hid r
  have HI := Lib.hid hi
  have HD := Lib.hid hd
  have T1 := Lib.hid tt1
  have T2 := Lib.hid tt2
  have HT := Lib.hid hT
  have Pub := Lib.hid m.pub
  clear f0 b0 b1 b2 m r hi hd tt1 tt2 hT
  rcases (show near = false ∨ (near = true ∧ a < -1000) ∨ (near = true ∧ -1000 ≤ a ∧ 1000 < a) ∨ (near = true ∧ -1000 ≤ a ∧ a ≤ 1000) by cases near <;> simp; omega) with rfl | ⟨rfl, h1⟩ | ⟨rfl, h1, h2⟩ | ⟨rfl, h1, h2⟩
  · go_enter Try.func12, Try.ntmps12
    go_wp2_with fail
    refine (HPut.out _ F0.out (a)).mono ?_
    have hat : atV h ⟨2, a, d, false, .slice DA d.length DC⟩ = a := by simp [atV] <;> omega
    have HAT := Lib.hid hat
    clear hat
    generalize hQ : endV h (a) = Q
    have HQ := Lib.hid hQ
    rintro e w1 ⟨S1, rfl, x1, m1, f1'⟩
    have f1 := f1'.mono (O' := g :: ob kvi) (by simp)
    have o0 : ∀ y, w.heap.size ≤ y → y ∉ g :: ob kvi := fun y hy hm => by have := T2.out y hm; omega
    have d0 := B0.out.fr f1 (o0 _ (by omega))
    have d1 := B1.out.fr f1 (o0 _ (by omega))
    have d2 := B2.out.fr f1 (o0 _ (by omega))
    obtain ⟨e0, e1, e2, e3⟩ := cells4 d0
    obtain ⟨e4, e5, e6, e7⟩ := cells4 d1
    have F1 : Fr (g :: ob kvi) w w1 := (F0.out.mono (by simp)).trans f1 (fun x hx => .inl hx)
    have X1 := Lib.hid x1
    have r1 : RPx S1 w1 (.slice KA L.length KC) h L := R.out.ext F1 T1.out X1.out.1 m1.pub
    have HrP : Hid (∀ p, Calls Try.prog 24 #[agH h (.slice KA L.length KC), .int .i64 p] w1 (REndsPost w1 (agH (endV h p).1 (.slice KA L.length KC)) (endV h p).2)) := Lib.hid (fun p => rends r1 HI.out p)
    have R1 := Lib.hid (r1.ends (a))
    rw [HQ.out] at R1
    have HSZ := Lib.hid f1.size
    have M1 := Lib.hid m1
    have FF1 := Lib.hid F1
    have D2 := Lib.hid d2
    clear x1 m1 f1 f1' o0 d0 d1 d2 F1 r1
    go_wp2_with fail
    refine (HrP.out (a)).mono ?_
    rw [HQ.out]
    rintro e w2 ⟨rfl, f2⟩
    have d2 := D2.out.fr f2 (by simp)
    have pub2 : ∀ b, S1 b → b < w2.heap.size := fun b hb => Nat.lt_of_lt_of_le (M1.out.pub b hb) f2.size
    have R2 := Lib.hid (R1.out.ext f2 (by simp) (fun _ h => h) pub2)
    have M2 := Lib.hid (M1.out.fr f2)
    have FF2 := Lib.hid (FF1.out.trans (f2.mono (by simp)) (fun x hx => .inl hx))
    have D2' := Lib.hid d2
    have hls := d2.lt
    clear f2 d2 e0 e1 e2 e3 e4 e5 e6 e7 pub2
    go_wp2_with (first
      | ((with_reducible refine gate_store 31 (.tmp 15) ?_); refine wpList_store_blk rfl 31 (.tmp 15) (.tmp 74) rfl w2.heap.size 31 (arR 0 0 (.slice none 0 0) 0) (arH Q.1 (.slice KA L.length KC)) rfl rfl (Blk.new w2 31 _) rfl (by kernel_rfl) (by simp [Value.oneCell']) ?_; intro w3 B3 F3; obtain ⟨y0, y1, y2, y3⟩ := cells4 B3; have f23 : Fr [] w2 w3 := ((Fr.refl [] w2).alloc _).trans F3 (by simp); have D3 := Lib.hid (D2'.out.fr f23 (by simp)); have F23 := Lib.hid f23; clear B3 F3 f23)
      | ((with_reducible refine gate_store 31 (.tmp 6) ?_); refine wpList_store_blk rfl 31 (.tmp 6) (.tmp 76) rfl (w.heap.size + 1 + 1) 31 (arR 0 0 (.slice none 0 0) 0) (arH Q.1 (.slice KA L.length KC)) rfl rfl D3.out rfl (by kernel_rfl) (by simp [Value.oneCell']) ?_; intro w4 B4 F4))
    obtain ⟨r0, r1', r2', r3⟩ := cells4 B4
    refine bodyPost_ret (v := .tuple #[agH Q.1 (.slice KA L.length KC), .bool true]) (by simp [results, Try.results12, go_sem, r0, r1', r2', r3]) rfl ?_
    rw [show doesV h ⟨2, a, d, false, .slice DA d.length DC⟩ = Q.1 by unfold doesV; rw [if_neg (by simp), if_pos rfl, HAT.out, HQ.out]]
    exact does_last (by rw [← HQ.out]; exact end_inv HI.out _) X1.out (by simp) (Ext.refl w1 S1) M2.out R2.out FF2.out F23.out F4 (fun b hb => .inl hb) HSZ.out T2.out Pub.out
  · go_enter Try.func12, Try.ntmps12
    go_wp2_with fail
    refine (HPut.out _ F0.out (a)).mono ?_
    have hat : atV h ⟨2, a, d, true, .slice DA d.length DC⟩ = a := by simp [atV] <;> omega
    have HAT := Lib.hid hat
    clear hat
    generalize hQ : endV h (a) = Q
    have HQ := Lib.hid hQ
    rintro e w1 ⟨S1, rfl, x1, m1, f1'⟩
    have f1 := f1'.mono (O' := g :: ob kvi) (by simp)
    have o0 : ∀ y, w.heap.size ≤ y → y ∉ g :: ob kvi := fun y hy hm => by have := T2.out y hm; omega
    have d0 := B0.out.fr f1 (o0 _ (by omega))
    have d1 := B1.out.fr f1 (o0 _ (by omega))
    have d2 := B2.out.fr f1 (o0 _ (by omega))
    obtain ⟨e0, e1, e2, e3⟩ := cells4 d0
    obtain ⟨e4, e5, e6, e7⟩ := cells4 d1
    have F1 : Fr (g :: ob kvi) w w1 := (F0.out.mono (by simp)).trans f1 (fun x hx => .inl hx)
    have X1 := Lib.hid x1
    have r1 : RPx S1 w1 (.slice KA L.length KC) h L := R.out.ext F1 T1.out X1.out.1 m1.pub
    have HrP : Hid (∀ p, Calls Try.prog 24 #[agH h (.slice KA L.length KC), .int .i64 p] w1 (REndsPost w1 (agH (endV h p).1 (.slice KA L.length KC)) (endV h p).2)) := Lib.hid (fun p => rends r1 HI.out p)
    have R1 := Lib.hid (r1.ends (a))
    rw [HQ.out] at R1
    have HSZ := Lib.hid f1.size
    have M1 := Lib.hid m1
    have FF1 := Lib.hid F1
    have D2 := Lib.hid d2
    clear x1 m1 f1 f1' o0 d0 d1 d2 F1 r1
    go_wp2_with fail
    refine (HrP.out (a)).mono ?_
    rw [HQ.out]
    rintro e w2 ⟨rfl, f2⟩
    have d2 := D2.out.fr f2 (by simp)
    have pub2 : ∀ b, S1 b → b < w2.heap.size := fun b hb => Nat.lt_of_lt_of_le (M1.out.pub b hb) f2.size
    have R2 := Lib.hid (R1.out.ext f2 (by simp) (fun _ h => h) pub2)
    have M2 := Lib.hid (M1.out.fr f2)
    have FF2 := Lib.hid (FF1.out.trans (f2.mono (by simp)) (fun x hx => .inl hx))
    have D2' := Lib.hid d2
    have hls := d2.lt
    clear f2 d2 e0 e1 e2 e3 e4 e5 e6 e7 pub2
    go_wp2_with (first
      | ((with_reducible refine gate_store 31 (.tmp 15) ?_); refine wpList_store_blk rfl 31 (.tmp 15) (.tmp 74) rfl w2.heap.size 31 (arR 0 0 (.slice none 0 0) 0) (arH Q.1 (.slice KA L.length KC)) rfl rfl (Blk.new w2 31 _) rfl (by kernel_rfl) (by simp [Value.oneCell']) ?_; intro w3 B3 F3; obtain ⟨y0, y1, y2, y3⟩ := cells4 B3; have f23 : Fr [] w2 w3 := ((Fr.refl [] w2).alloc _).trans F3 (by simp); have D3 := Lib.hid (D2'.out.fr f23 (by simp)); have F23 := Lib.hid f23; clear B3 F3 f23)
      | ((with_reducible refine gate_store 31 (.tmp 6) ?_); refine wpList_store_blk rfl 31 (.tmp 6) (.tmp 76) rfl (w.heap.size + 1 + 1) 31 (arR 0 0 (.slice none 0 0) 0) (arH Q.1 (.slice KA L.length KC)) rfl rfl D3.out rfl (by kernel_rfl) (by simp [Value.oneCell']) ?_; intro w4 B4 F4))
    obtain ⟨r0, r1', r2', r3⟩ := cells4 B4
    refine bodyPost_ret (v := .tuple #[agH Q.1 (.slice KA L.length KC), .bool true]) (by simp [results, Try.results12, go_sem, r0, r1', r2', r3]) rfl ?_
    rw [show doesV h ⟨2, a, d, true, .slice DA d.length DC⟩ = Q.1 by unfold doesV; rw [if_neg (by simp), if_pos rfl, HAT.out, HQ.out]]
    exact does_last (by rw [← HQ.out]; exact end_inv HI.out _) X1.out (by simp) (Ext.refl w1 S1) M2.out R2.out FF2.out F23.out F4 (fun b hb => .inl hb) HSZ.out T2.out Pub.out
  · go_enter Try.func12, Try.ntmps12
    go_wp2_with fail
    refine (HPut.out _ F0.out (a)).mono ?_
    have hat : atV h ⟨2, a, d, true, .slice DA d.length DC⟩ = a := by simp [atV] <;> omega
    have HAT := Lib.hid hat
    clear hat
    generalize hQ : endV h (a) = Q
    have HQ := Lib.hid hQ
    rintro e w1 ⟨S1, rfl, x1, m1, f1'⟩
    have f1 := f1'.mono (O' := g :: ob kvi) (by simp)
    have o0 : ∀ y, w.heap.size ≤ y → y ∉ g :: ob kvi := fun y hy hm => by have := T2.out y hm; omega
    have d0 := B0.out.fr f1 (o0 _ (by omega))
    have d1 := B1.out.fr f1 (o0 _ (by omega))
    have d2 := B2.out.fr f1 (o0 _ (by omega))
    obtain ⟨e0, e1, e2, e3⟩ := cells4 d0
    obtain ⟨e4, e5, e6, e7⟩ := cells4 d1
    have F1 : Fr (g :: ob kvi) w w1 := (F0.out.mono (by simp)).trans f1 (fun x hx => .inl hx)
    have X1 := Lib.hid x1
    have r1 : RPx S1 w1 (.slice KA L.length KC) h L := R.out.ext F1 T1.out X1.out.1 m1.pub
    have HrP : Hid (∀ p, Calls Try.prog 24 #[agH h (.slice KA L.length KC), .int .i64 p] w1 (REndsPost w1 (agH (endV h p).1 (.slice KA L.length KC)) (endV h p).2)) := Lib.hid (fun p => rends r1 HI.out p)
    have R1 := Lib.hid (r1.ends (a))
    rw [HQ.out] at R1
    have HSZ := Lib.hid f1.size
    have M1 := Lib.hid m1
    have FF1 := Lib.hid F1
    have D2 := Lib.hid d2
    clear x1 m1 f1 f1' o0 d0 d1 d2 F1 r1
    go_wp2_with fail
    refine (HrP.out (a)).mono ?_
    rw [HQ.out]
    rintro e w2 ⟨rfl, f2⟩
    have d2 := D2.out.fr f2 (by simp)
    have pub2 : ∀ b, S1 b → b < w2.heap.size := fun b hb => Nat.lt_of_lt_of_le (M1.out.pub b hb) f2.size
    have R2 := Lib.hid (R1.out.ext f2 (by simp) (fun _ h => h) pub2)
    have M2 := Lib.hid (M1.out.fr f2)
    have FF2 := Lib.hid (FF1.out.trans (f2.mono (by simp)) (fun x hx => .inl hx))
    have D2' := Lib.hid d2
    have hls := d2.lt
    clear f2 d2 e0 e1 e2 e3 e4 e5 e6 e7 pub2
    go_wp2_with (first
      | ((with_reducible refine gate_store 31 (.tmp 15) ?_); refine wpList_store_blk rfl 31 (.tmp 15) (.tmp 74) rfl w2.heap.size 31 (arR 0 0 (.slice none 0 0) 0) (arH Q.1 (.slice KA L.length KC)) rfl rfl (Blk.new w2 31 _) rfl (by kernel_rfl) (by simp [Value.oneCell']) ?_; intro w3 B3 F3; obtain ⟨y0, y1, y2, y3⟩ := cells4 B3; have f23 : Fr [] w2 w3 := ((Fr.refl [] w2).alloc _).trans F3 (by simp); have D3 := Lib.hid (D2'.out.fr f23 (by simp)); have F23 := Lib.hid f23; clear B3 F3 f23)
      | ((with_reducible refine gate_store 31 (.tmp 6) ?_); refine wpList_store_blk rfl 31 (.tmp 6) (.tmp 76) rfl (w.heap.size + 1 + 1) 31 (arR 0 0 (.slice none 0 0) 0) (arH Q.1 (.slice KA L.length KC)) rfl rfl D3.out rfl (by kernel_rfl) (by simp [Value.oneCell']) ?_; intro w4 B4 F4))
    obtain ⟨r0, r1', r2', r3⟩ := cells4 B4
    refine bodyPost_ret (v := .tuple #[agH Q.1 (.slice KA L.length KC), .bool true]) (by simp [results, Try.results12, go_sem, r0, r1', r2', r3]) rfl ?_
    rw [show doesV h ⟨2, a, d, true, .slice DA d.length DC⟩ = Q.1 by unfold doesV; rw [if_neg (by simp), if_pos rfl, HAT.out, HQ.out]]
    exact does_last (by rw [← HQ.out]; exact end_inv HI.out _) X1.out (by simp) (Ext.refl w1 S1) M2.out R2.out FF2.out F23.out F4 (fun b hb => .inl hb) HSZ.out T2.out Pub.out
  · go_enter Try.func12, Try.ntmps12
    go_wp2_with fail
    refine (HPut.out _ F0.out (a + h.next)).mono ?_
    have hat : atV h ⟨2, a, d, true, .slice DA d.length DC⟩ = a + h.next := by simp [atV] <;> omega
    have HAT := Lib.hid hat
    clear hat
    generalize hQ : endV h (a + h.next) = Q
    have HQ := Lib.hid hQ
    rintro e w1 ⟨S1, rfl, x1, m1, f1'⟩
    have f1 := f1'.mono (O' := g :: ob kvi) (by simp)
    have o0 : ∀ y, w.heap.size ≤ y → y ∉ g :: ob kvi := fun y hy hm => by have := T2.out y hm; omega
    have d0 := B0.out.fr f1 (o0 _ (by omega))
    have d1 := B1.out.fr f1 (o0 _ (by omega))
    have d2 := B2.out.fr f1 (o0 _ (by omega))
    obtain ⟨e0, e1, e2, e3⟩ := cells4 d0
    obtain ⟨e4, e5, e6, e7⟩ := cells4 d1
    have F1 : Fr (g :: ob kvi) w w1 := (F0.out.mono (by simp)).trans f1 (fun x hx => .inl hx)
    have X1 := Lib.hid x1
    have r1 : RPx S1 w1 (.slice KA L.length KC) h L := R.out.ext F1 T1.out X1.out.1 m1.pub
    have HrP : Hid (∀ p, Calls Try.prog 24 #[agH h (.slice KA L.length KC), .int .i64 p] w1 (REndsPost w1 (agH (endV h p).1 (.slice KA L.length KC)) (endV h p).2)) := Lib.hid (fun p => rends r1 HI.out p)
    have R1 := Lib.hid (r1.ends (a + h.next))
    rw [HQ.out] at R1
    have HSZ := Lib.hid f1.size
    have M1 := Lib.hid m1
    have FF1 := Lib.hid F1
    have D2 := Lib.hid d2
    clear x1 m1 f1 f1' o0 d0 d1 d2 F1 r1
    go_wp2_with fail
    refine (HrP.out (a + h.next)).mono ?_
    rw [HQ.out]
    rintro e w2 ⟨rfl, f2⟩
    have d2 := D2.out.fr f2 (by simp)
    have pub2 : ∀ b, S1 b → b < w2.heap.size := fun b hb => Nat.lt_of_lt_of_le (M1.out.pub b hb) f2.size
    have R2 := Lib.hid (R1.out.ext f2 (by simp) (fun _ h => h) pub2)
    have M2 := Lib.hid (M1.out.fr f2)
    have FF2 := Lib.hid (FF1.out.trans (f2.mono (by simp)) (fun x hx => .inl hx))
    have D2' := Lib.hid d2
    have hls := d2.lt
    clear f2 d2 e0 e1 e2 e3 e4 e5 e6 e7 pub2
    go_wp2_with (first
      | ((with_reducible refine gate_store 31 (.tmp 15) ?_); refine wpList_store_blk rfl 31 (.tmp 15) (.tmp 74) rfl w2.heap.size 31 (arR 0 0 (.slice none 0 0) 0) (arH Q.1 (.slice KA L.length KC)) rfl rfl (Blk.new w2 31 _) rfl (by kernel_rfl) (by simp [Value.oneCell']) ?_; intro w3 B3 F3; obtain ⟨y0, y1, y2, y3⟩ := cells4 B3; have f23 : Fr [] w2 w3 := ((Fr.refl [] w2).alloc _).trans F3 (by simp); have D3 := Lib.hid (D2'.out.fr f23 (by simp)); have F23 := Lib.hid f23; clear B3 F3 f23)
      | ((with_reducible refine gate_store 31 (.tmp 6) ?_); refine wpList_store_blk rfl 31 (.tmp 6) (.tmp 76) rfl (w.heap.size + 1 + 1) 31 (arR 0 0 (.slice none 0 0) 0) (arH Q.1 (.slice KA L.length KC)) rfl rfl D3.out rfl (by kernel_rfl) (by simp [Value.oneCell']) ?_; intro w4 B4 F4))
    obtain ⟨r0, r1', r2', r3⟩ := cells4 B4
    refine bodyPost_ret (v := .tuple #[agH Q.1 (.slice KA L.length KC), .bool true]) (by simp [results, Try.results12, go_sem, r0, r1', r2', r3]) rfl ?_
    rw [show doesV h ⟨2, a, d, true, .slice DA d.length DC⟩ = Q.1 by unfold doesV; rw [if_neg (by simp), if_pos rfl, HAT.out, HQ.out]]
    exact does_last (by rw [← HQ.out]; exact end_inv HI.out _) X1.out (by simp) (Ext.refl w1 S1) M2.out R2.out FF2.out F23.out F4 (fun b hb => .inl hb) HSZ.out T2.out Pub.out
set_option maxRecDepth 100000 in
set_option maxHeartbeats 4000000 in
theorem does_other {S : Nat → Prop} {w : World} {g : Nat} {kvi kvr : Value} {h : Hp} (t : Two S w g kvi kvr h) (k a : Int) (hk1 : (k == 1) = false) (hk2 : (k == 2) = false) (d : List Int) (near : Bool) (dv : Value) (T : Nat → Prop) (hd : Byt T w dv d) (hT : ∀ b, T b → b ∉ g :: ob kvi) (hl : d.length ≤ 100) :
    Calls Try.prog 12 #[ptr g, agH h kvr, .agg (arA k a dv near)] w (DoesPost S w g kvi (doesV h ⟨k, a, d, near, dv⟩)) := by
  have tt := t.off
  obtain ⟨hi, m, L, r⟩ := t
  obtain ⟨KA, KC, rfl, hKn, hKc⟩ := r.kp.form
  obtain ⟨DA, DC, rfl, hdn, hdc⟩ := hd.form
  obtain ⟨tt1, tt2⟩ := tt
  have hn0 := hi.n0
  have hn1 := hi.n1
  have f0 : Fr [] w (((w.alloc (.cells (arH h (.slice KA L.length KC)) 31)).alloc (.cells (arA k a (.slice DA d.length DC) near) 37)).alloc (.cells (arR 0 0 (.slice none 0 0) 0) 31)) := (((Fr.refl _ _).alloc _).alloc _).alloc _
  have b0 : Blk (((w.alloc (.cells (arH h (.slice KA L.length KC)) 31)).alloc (.cells (arA k a (.slice DA d.length DC) near) 37)).alloc (.cells (arR 0 0 (.slice none 0 0) 0) 31)) w.heap.size 31 (arH h (.slice KA L.length KC)) := ((Blk.new w 31 _).alloc _).alloc _
  have b1 : Blk (((w.alloc (.cells (arH h (.slice KA L.length KC)) 31)).alloc (.cells (arA k a (.slice DA d.length DC) near) 37)).alloc (.cells (arR 0 0 (.slice none 0 0) 0) 31)) (w.heap.size + 1) 37 (arA k a (.slice DA d.length DC) near) := by simpa using (Blk.new (w.alloc (.cells (arH h (.slice KA L.length KC)) 31)) 37 (arA k a (.slice DA d.length DC) near)).alloc (.cells (arR 0 0 (.slice none 0 0) 0) 31)
  have b2 : Blk (((w.alloc (.cells (arH h (.slice KA L.length KC)) 31)).alloc (.cells (arA k a (.slice DA d.length DC) near) 37)).alloc (.cells (arR 0 0 (.slice none 0 0) 0) 31)) (w.heap.size + 1 + 1) 31 (arR 0 0 (.slice none 0 0) 0) := by simpa using Blk.new ((w.alloc (.cells (arH h (.slice KA L.length KC)) 31)).alloc (.cells (arA k a (.slice DA d.length DC) near) 37)) 31 (arR 0 0 (.slice none 0 0) 0)
  have HK1 := Lib.hid hk1
  have HK2 := Lib.hid hk2
  have F0 := Lib.hid f0
  have B0 := Lib.hid b0
  have B1 := Lib.hid b1
  have B2 := Lib.hid b2
  have M := Lib.hid m
  have R := Lib.hid r
  have HI := Lib.hid hi
  have HD := Lib.hid hd
  have T1 := Lib.hid tt1
  have T2 := Lib.hid tt2
  have HT := Lib.hid hT
  have Pub := Lib.hid m.pub
  clear f0 b0 b1 b2 m r hi hd tt1 tt2 hT
  rcases (show near = false ∨ (near = true ∧ a < -1000) ∨ (near = true ∧ -1000 ≤ a ∧ 1000 < a) ∨ (near = true ∧ -1000 ≤ a ∧ a ≤ 1000) by cases near <;> simp; omega) with rfl | ⟨rfl, h1⟩ | ⟨rfl, h1, h2⟩ | ⟨rfl, h1, h2⟩
  · go_enter Try.func12, Try.ntmps12
    go_wp2_with ((with_reducible refine gate_store 31 (.tmp 6) ?_); refine wpList_store_blk rfl 31 (.tmp 6) (.tmp 80) rfl (w.heap.size + 1 + 1) 31 (arR 0 0 (.slice none 0 0) 0) (arH h (.slice KA L.length KC)) rfl rfl B2.out rfl (by kernel_rfl) (by simp [Value.oneCell']) ?_; intro w4 B4 F4)
    obtain ⟨r0, r1', r2', r3⟩ := cells4 B4
    refine bodyPost_ret (v := .tuple #[agH h (.slice KA L.length KC), .bool true]) (by simp [results, Try.results12, go_sem, r0, r1', r2', r3]) rfl ?_
    rw [show doesV h ⟨k, a, d, false, .slice DA d.length DC⟩ = h by unfold doesV; rw [if_neg (by simpa using HK1.out), if_neg (by simpa using HK2.out)]]
    exact does_still HI.out M.out R.out F0.out (by simp) F4 T2.out Pub.out
  · go_enter Try.func12, Try.ntmps12
    go_wp2_with ((with_reducible refine gate_store 31 (.tmp 6) ?_); refine wpList_store_blk rfl 31 (.tmp 6) (.tmp 80) rfl (w.heap.size + 1 + 1) 31 (arR 0 0 (.slice none 0 0) 0) (arH h (.slice KA L.length KC)) rfl rfl B2.out rfl (by kernel_rfl) (by simp [Value.oneCell']) ?_; intro w4 B4 F4)
    obtain ⟨r0, r1', r2', r3⟩ := cells4 B4
    refine bodyPost_ret (v := .tuple #[agH h (.slice KA L.length KC), .bool true]) (by simp [results, Try.results12, go_sem, r0, r1', r2', r3]) rfl ?_
    rw [show doesV h ⟨k, a, d, true, .slice DA d.length DC⟩ = h by unfold doesV; rw [if_neg (by simpa using HK1.out), if_neg (by simpa using HK2.out)]]
    exact does_still HI.out M.out R.out F0.out (by simp) F4 T2.out Pub.out
  · go_enter Try.func12, Try.ntmps12
    go_wp2_with ((with_reducible refine gate_store 31 (.tmp 6) ?_); refine wpList_store_blk rfl 31 (.tmp 6) (.tmp 80) rfl (w.heap.size + 1 + 1) 31 (arR 0 0 (.slice none 0 0) 0) (arH h (.slice KA L.length KC)) rfl rfl B2.out rfl (by kernel_rfl) (by simp [Value.oneCell']) ?_; intro w4 B4 F4)
    obtain ⟨r0, r1', r2', r3⟩ := cells4 B4
    refine bodyPost_ret (v := .tuple #[agH h (.slice KA L.length KC), .bool true]) (by simp [results, Try.results12, go_sem, r0, r1', r2', r3]) rfl ?_
    rw [show doesV h ⟨k, a, d, true, .slice DA d.length DC⟩ = h by unfold doesV; rw [if_neg (by simpa using HK1.out), if_neg (by simpa using HK2.out)]]
    exact does_still HI.out M.out R.out F0.out (by simp) F4 T2.out Pub.out
  · go_enter Try.func12, Try.ntmps12
    go_wp2_with ((with_reducible refine gate_store 31 (.tmp 6) ?_); refine wpList_store_blk rfl 31 (.tmp 6) (.tmp 80) rfl (w.heap.size + 1 + 1) 31 (arR 0 0 (.slice none 0 0) 0) (arH h (.slice KA L.length KC)) rfl rfl B2.out rfl (by kernel_rfl) (by simp [Value.oneCell']) ?_; intro w4 B4 F4)
    obtain ⟨r0, r1', r2', r3⟩ := cells4 B4
    refine bodyPost_ret (v := .tuple #[agH h (.slice KA L.length KC), .bool true]) (by simp [results, Try.results12, go_sem, r0, r1', r2', r3]) rfl ?_
    rw [show doesV h ⟨k, a, d, true, .slice DA d.length DC⟩ = h by unfold doesV; rw [if_neg (by simpa using HK1.out), if_neg (by simpa using HK2.out)]]
    exact does_still HI.out M.out R.out F0.out (by simp) F4 T2.out Pub.out
theorem does_any {S : Nat → Prop} {w : World} {g : Nat} {kvi kvr : Value} {h : Hp} (t : Two S w g kvi kvr h) (a : PAct) (T : Nat → Prop) (hd : Byt T w a.dv a.d) (hT : ∀ b, T b → b ∉ g :: ob kvi) (hl : a.d.length ≤ 100) :
    Calls Try.prog 12 #[ptr g, agH h kvr, .agg (arA a.kind a.at_ a.dv a.near)] w (DoesPost S w g kvi (doesV h a)) := by
  obtain ⟨k, p, d, near, dv⟩ := a
  dsimp only at hd hl ⊢
  by_cases h1 : k = 1
  · subst h1
    exact does_put t p d near dv T hd hT hl
  by_cases h2 : k = 2
  · subst h2
    exact does_ends t p d near dv T hd hT hl
  exact does_other t k p (by simpa using h1) (by simpa using h2) d near dv T hd hT hl
end Go.Proofs.Ytdlmhadcaagokaa
