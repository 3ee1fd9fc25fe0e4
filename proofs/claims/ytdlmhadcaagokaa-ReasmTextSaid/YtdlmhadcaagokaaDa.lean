import Derived.Test.YtdlmhadcaagokaaY
import Derived.Deep.DeepCutAuto
namespace Go.Proofs.Ytdlmhadcaagokaa
open Go.RowKit Go.Deep

/-- A heap of the implementation and one of the reference that stand alike. -/
def Two (S : Nat → Prop) (w : World) (g : Nat) (kvi kvr : Value) (h : Hp) : Prop := Inv h ∧ HP S w g kvi h ∧ ∃ L, RPx S w kvr h L
def atV (h : Hp) (a : PAct) : Int := if (a.near && decide (-1000 ≤ a.at_) && decide (a.at_ ≤ 1000)) = true then a.at_ + h.next else a.at_
def doesV (h : Hp) (a : PAct) : Hp := if a.kind = 1 then (putV h (atV h a) a.d).1 else if a.kind = 2 then (endV h (atV h a)).1 else h
def DoesPost (S : Nat → Prop) (w : World) (g : Nat) (kvi : Value) (h' : Hp) (e : Ending) (w' : World) : Prop :=
  ∃ S' kvi' kvr', e = .returned (.tuple #[agH h' kvr', .bool true]) ∧ Ext w S S' ∧ Two S' w' g kvi' kvr' h' ∧ Fr (g :: ob kvi) w w' ∧ ∀ b, kvi'.ownBlock = some b → kvi.ownBlock = some b ∨ w.heap.size ≤ b
abbrev arA (k p : Int) (dv : Value) (n : Bool) : Array Value := #[.int .i64 k, .int .i64 p, dv, .bool n]
theorem does_inv {h : Hp} (hi : Inv h) (a : PAct) : Inv (doesV h a) := by
  unfold doesV
  split
  · exact put_inv hi _ _
  split
  · exact end_inv hi _
  · exact hi
theorem end_kept (h : Hp) (a : Int) : (endV h a).1.kept = h.kept := by
  unfold endV
  (repeat' split) <;> rfl
section
variable {S : Nat → Prop} {w : World} {g : Nat} {kvi kvr : Value} {h : Hp}
theorem Two.off (t : Two S w g kvi kvr h) : (∀ x ∈ g :: ob kvi, ¬ S x) ∧ (∀ x ∈ g :: ob kvi, x < w.heap.size) := by
  obtain ⟨_, ⟨ev, L, m⟩, _⟩ := t
  refine ⟨fun x hx => ?_, fun x hx => ?_⟩
  · rcases List.mem_cons.1 hx with rfl | hx
    · exact m.offg
    · exact m.offk x (mem_ob.1 hx)
  · rcases List.mem_cons.1 hx with rfl | hx
    · exact m.blk.lt
    · exact own_lt m.kp.own (mem_ob.1 hx)
theorem HP.fr (m : HP S w g kvi h) {w' : World} (f : Fr [] w w') : HP S w' g kvi h := by
  obtain ⟨ev, L, m⟩ := m
  exact ⟨ev, L, m.fr f (by simp) (by simp) (by simp)⟩
theorem HP.pub (m : HP S w g kvi h) : ∀ b, S b → b < w.heap.size := by
  obtain ⟨ev, L, m⟩ := m
  exact m.pub
theorem HP.ext {S' : Nat → Prop} {w' : World} (m : HP S w g kvi h) (f : Fr [] w w') (x : Ext w S S') (hp : ∀ b, S' b → b < w'.heap.size) : HP S' w' g kvi h := by
  obtain ⟨ev, L, m⟩ := m
  exact ⟨ev, L, m.ext f x (by simp) (by simp) (by simp) hp⟩
end
theorem does_last {S S1 S2 : Nat → Prop} {w W0 w1 w2 w3 w4 : World} {g : Nat} {kvi kv1 kv2 : Value} {h' : Hp} {L2 : List (Pc × Value)} (hi : Inv h')
    (x1 : Ext W0 S S1) (hz : W0.heap.size = w.heap.size + 1 + 1 + 1) (x2 : Ext w1 S1 S2) (m2 : HP S2 w2 g kv1 h') (r2 : RPx S2 w2 kv2 h' L2) (F2 : Fr (g :: ob kvi) w w2) (f23 : Fr [] w2 w3) (f4 : Fr [w.heap.size + 1 + 1] w3 w4)
    (n1 : ∀ b, kv1.ownBlock = some b → kvi.ownBlock = some b ∨ W0.heap.size ≤ b) (hs : W0.heap.size ≤ w1.heap.size) (T2 : ∀ x ∈ g :: ob kvi, x < w.heap.size) (pub : ∀ b, S b → b < w.heap.size) :
    DoesPost S w g kvi h' (.returned (.tuple #[agH h' kv2, .bool true])) w4 := by
  have hS : ¬ S2 (w.heap.size + 1 + 1) := fun hs' => by
    rcases x2.2 _ hs' with h1 | h1
    · rcases x1.2 _ h1 with h2 | h2
      · have := pub _ h2
        omega
      · omega
    · omega
  have hO : ∀ x ∈ [w.heap.size + 1 + 1], ¬ S2 x := by intro x hx; simp at hx; subst hx; exact hS
  have hpub : ∀ b, S2 b → b < w4.heap.size := fun b hb => by
    have h1 := m2.pub b hb
    have h2 := f23.size
    have h3 := f4.size
    omega
  refine ⟨S2, kv1, kv2, rfl, Ext.trans (Ext.trans (Ext.refl w S) (by omega) x1) (by omega) x2, ⟨hi, ?_, L2, (r2.ext f23 (by simp) (fun _ h => h) (fun b hb => Nat.lt_of_lt_of_le (m2.pub b hb) f23.size)).ext f4 hO (fun _ h => h) hpub⟩,
    (F2.trans (f23.mono (by simp)) (fun x hx => .inl hx)).trans f4 (by intro x hx; simp at hx; subst hx; exact .inr (by omega)), fun b hb => (n1 b hb).imp id (fun h => by omega)⟩
  obtain ⟨ev, L, m⟩ := m2.fr f23
  refine ⟨ev, L, m.fr f4 hO (by have := T2 g (by simp); simp; omega) (fun b hb => ?_)⟩
  simp
  rintro rfl
  rcases n1 _ hb with h1 | h1
  · have := T2 _ (List.mem_cons_of_mem _ (mem_ob.2 h1))
    omega
  · omega
set_option maxRecDepth 100000 in
set_option maxHeartbeats 4000000 in
theorem does_put {S : Nat → Prop} {w : World} {g : Nat} {kvi kvr : Value} {h : Hp} (t : Two S w g kvi kvr h) (a : Int) (d : List Int) (near : Bool) (dv : Value) (T : Nat → Prop) (hd : Byt T w dv d) (hT : ∀ b, T b → b ∉ g :: ob kvi) (hl : d.length ≤ 100) :
    Calls Try.prog 12 #[ptr g, agH h kvr, .agg (arA 1 a dv near)] w (DoesPost S w g kvi (doesV h ⟨1, a, d, near, dv⟩)) := by
  have tt := t.off
  obtain ⟨hi, m, L, r⟩ := t
  obtain ⟨KA, KC, rfl, hKn, hKc⟩ := r.kp.form
  obtain ⟨DA, DC, rfl, hdn, hdc⟩ := hd.form
  obtain ⟨tt1, tt2⟩ := tt
  have hn0 := hi.n0
  have hn1 := hi.n1
  have f0 : Fr [] w (((w.alloc (.cells (arH h (.slice KA L.length KC)) 31)).alloc (.cells (arA 1 a (.slice DA d.length DC) near) 37)).alloc (.cells (arR 0 0 (.slice none 0 0) 0) 31)) := (((Fr.refl _ _).alloc _).alloc _).alloc _
  have b0 : Blk (((w.alloc (.cells (arH h (.slice KA L.length KC)) 31)).alloc (.cells (arA 1 a (.slice DA d.length DC) near) 37)).alloc (.cells (arR 0 0 (.slice none 0 0) 0) 31)) w.heap.size 31 (arH h (.slice KA L.length KC)) := ((Blk.new w 31 _).alloc _).alloc _
  have b1 : Blk (((w.alloc (.cells (arH h (.slice KA L.length KC)) 31)).alloc (.cells (arA 1 a (.slice DA d.length DC) near) 37)).alloc (.cells (arR 0 0 (.slice none 0 0) 0) 31)) (w.heap.size + 1) 37 (arA 1 a (.slice DA d.length DC) near) := by simpa using (Blk.new (w.alloc (.cells (arH h (.slice KA L.length KC)) 31)) 37 (arA 1 a (.slice DA d.length DC) near)).alloc (.cells (arR 0 0 (.slice none 0 0) 0) 31)
  have b2 : Blk (((w.alloc (.cells (arH h (.slice KA L.length KC)) 31)).alloc (.cells (arA 1 a (.slice DA d.length DC) near) 37)).alloc (.cells (arR 0 0 (.slice none 0 0) 0) 31)) (w.heap.size + 1 + 1) 31 (arR 0 0 (.slice none 0 0) 0) := by simpa using Blk.new ((w.alloc (.cells (arH h (.slice KA L.length KC)) 31)).alloc (.cells (arA 1 a (.slice DA d.length DC) near) 37)) 31 (arR 0 0 (.slice none 0 0) 0)
  have HPut : Hid (∀ W, Fr [] w W → ∀ p, Calls Try.prog 16 #[ptr g, .int .i64 p, .slice DA d.length DC] W (PutPost S W g kvi (putV h p d).1 (putV h p d).2.1 (putV h p d).2.2)) := Lib.hid (fun W f p => put_any (m.fr f) hi p _ d T (hd.fr f (by simp)) (by omega))
  have F0 := Lib.hid f0
  have B0 := Lib.hid b0
  have B1 := Lib.hid b1
  have B2 := Lib.hid b2
  have M := Lib.hid m
  have R := Lib.hid r
  have HI := Lib.hid hi
  have HD := Lib.hid hd
  have T1 := Lib.hid tt1
  have T2 := Lib.hid tt2
  have HT := Lib.hid hT
  have Pub := Lib.hid m.pub
  clear f0 b0 b1 b2 m r hi hd tt1 tt2 hT
  rcases (show near = false ∨ (near = true ∧ a < -1000) ∨ (near = true ∧ -1000 ≤ a ∧ 1000 < a) ∨ (near = true ∧ -1000 ≤ a ∧ a ≤ 1000) by cases near <;> simp; omega) with rfl | ⟨rfl, h1⟩ | ⟨rfl, h1, h2⟩ | ⟨rfl, h1, h2⟩
  · go_enter Try.func12, Try.ntmps12
    go_wp2_with fail
    refine (HPut.out _ F0.out (a)).mono ?_
    have hat : atV h ⟨1, a, d, false, .slice DA d.length DC⟩ = a := by simp [atV] <;> omega
    have HAT := Lib.hid hat
    clear hat
    generalize hQ : putV h (a) d = Q
    have HQ := Lib.hid hQ
    rintro e w1 ⟨S1, kv1, A1, c1, rfl, x1, by1, m1, f1, n1⟩
    have o0 : ∀ y, w.heap.size ≤ y → y ∉ g :: ob kvi := fun y hy hm => by have := T2.out y hm; omega
    have d0 := B0.out.fr f1 (o0 _ (by omega))
    have d1 := B1.out.fr f1 (o0 _ (by omega))
    have d2 := B2.out.fr f1 (o0 _ (by omega))
    obtain ⟨e0, e1, e2, e3⟩ := cells4 d0
    obtain ⟨e4, e5, e6, e7⟩ := cells4 d1
    have F1 : Fr (g :: ob kvi) w w1 := (F0.out.mono (by simp)).trans f1 (fun x hx => .inl hx)
    have X1 := Lib.hid x1
    have r1 : RPx S1 w1 (.slice KA L.length KC) h L := R.out.ext F1 T1.out X1.out.1 m1.pub
    have HrP : Hid (∀ p, Calls Try.prog 23 #[agH h (.slice KA L.length KC), .int .i64 p, .slice DA d.length DC] w1 (RPutPost S1 w1 (putV h p d).1 (putV h p d).2.1 (putV h p d).2.2)) := Lib.hid (fun p => rput_any r1 HI.out p _ d T (HD.out.fr F1 (fun x hx hs => HT.out x hs hx)) (by omega))
    have N1 := Lib.hid n1
    have HSZ := Lib.hid f1.size
    have By1 := Lib.hid by1
    have M1 := Lib.hid m1
    have FF1 := Lib.hid F1
    have D2 := Lib.hid d2
    clear x1 by1 m1 f1 n1 o0 d0 d1 d2 F1 r1
    go_wp2_with fail
    refine (HrP.out (a)).mono ?_
    rw [HQ.out]
    rintro e w2 ⟨S2, kv2, A2, c2, L2, rfl, x2, by2, r2, f2⟩
    obtain ⟨K2A, K2C, rfl, _, _⟩ := r2.kp.form
    have d2 := D2.out.fr f2 (by simp)
    have X2 := Lib.hid x2
    have By2 := Lib.hid by2
    have R2 := Lib.hid r2
    have By1' := Lib.hid (By1.out.fr f2 (by simp))
    have M2 := Lib.hid (M1.out.ext f2 x2 r2.pub)
    have FF2 := Lib.hid (FF1.out.trans (f2.mono (by simp)) (fun x hx => .inl hx))
    have D2' := Lib.hid d2
    have hls := d2.lt
    have hle1 := X1.out
    clear x2 by2 r2 f2 d2 e0 e1 e2 e3 e4 e5 e6 e7 hle1
    go_wp2_with (first
      | ((with_reducible refine gate_store 31 (.tmp 11) ?_); refine wpList_store_blk rfl 31 (.tmp 11) (.tmp 51) rfl w2.heap.size 31 (arR 0 0 (.slice none 0 0) 0) (arH Q.1 (.slice K2A L2.length K2C)) rfl rfl (Blk.new w2 31 _) rfl (by kernel_rfl) (by simp [Value.oneCell']) ?_; intro w3 B3 F3; obtain ⟨y0, y1, y2, y3⟩ := cells4 B3; have f23 : Fr [] w2 w3 := ((Fr.refl [] w2).alloc _).trans F3 (by simp); have q1 := (By1'.out.fr f23 (by simp)).string (P := Try.prog) 35 5 Try.underlying35 Try.underlying5 9 Try.underlying9; have q2 := (By2.out.fr f23 (by simp)).string (P := Try.prog) 35 5 Try.underlying35 Try.underlying5 9 Try.underlying9; have D3 := Lib.hid (D2'.out.fr f23 (by simp)); have F23 := Lib.hid f23; clear B3 F3 f23)
      | ((with_reducible refine gate_store 31 (.tmp 6) ?_); refine wpList_store_blk rfl 31 (.tmp 6) (.tmp 54) rfl (w.heap.size + 1 + 1) 31 (arR 0 0 (.slice none 0 0) 0) (arH Q.1 (.slice K2A L2.length K2C)) rfl rfl D3.out rfl (by kernel_rfl) (by simp [Value.oneCell']) ?_; intro w4 B4 F4))
    obtain ⟨r0, r1', r2', r3⟩ := cells4 B4
    refine bodyPost_ret (v := .tuple #[agH Q.1 (.slice K2A L2.length K2C), .bool true]) (by simp [results, Try.results12, go_sem, r0, r1', r2', r3]) rfl ?_
    rw [show doesV h ⟨1, a, d, false, .slice DA d.length DC⟩ = Q.1 by unfold doesV; rw [if_pos rfl, HAT.out, HQ.out]]
    exact does_last (by rw [← HQ.out]; exact put_inv HI.out _ _) X1.out (by simp) X2.out M2.out R2.out FF2.out F23.out F4 N1.out HSZ.out T2.out Pub.out
  · go_enter Try.func12, Try.ntmps12
    go_wp2_with fail
    refine (HPut.out _ F0.out (a)).mono ?_
    have hat : atV h ⟨1, a, d, true, .slice DA d.length DC⟩ = a := by simp [atV] <;> omega
    have HAT := Lib.hid hat
    clear hat
    generalize hQ : putV h (a) d = Q
    have HQ := Lib.hid hQ
    rintro e w1 ⟨S1, kv1, A1, c1, rfl, x1, by1, m1, f1, n1⟩
    have o0 : ∀ y, w.heap.size ≤ y → y ∉ g :: ob kvi := fun y hy hm => by have := T2.out y hm; omega
    have d0 := B0.out.fr f1 (o0 _ (by omega))
    have d1 := B1.out.fr f1 (o0 _ (by omega))
    have d2 := B2.out.fr f1 (o0 _ (by omega))
    obtain ⟨e0, e1, e2, e3⟩ := cells4 d0
    obtain ⟨e4, e5, e6, e7⟩ := cells4 d1
    have F1 : Fr (g :: ob kvi) w w1 := (F0.out.mono (by simp)).trans f1 (fun x hx => .inl hx)
    have X1 := Lib.hid x1
    have r1 : RPx S1 w1 (.slice KA L.length KC) h L := R.out.ext F1 T1.out X1.out.1 m1.pub
    have HrP : Hid (∀ p, Calls Try.prog 23 #[agH h (.slice KA L.length KC), .int .i64 p, .slice DA d.length DC] w1 (RPutPost S1 w1 (putV h p d).1 (putV h p d).2.1 (putV h p d).2.2)) := Lib.hid (fun p => rput_any r1 HI.out p _ d T (HD.out.fr F1 (fun x hx hs => HT.out x hs hx)) (by omega))
    have N1 := Lib.hid n1
    have HSZ := Lib.hid f1.size
    have By1 := Lib.hid by1
    have M1 := Lib.hid m1
    have FF1 := Lib.hid F1
    have D2 := Lib.hid d2
    clear x1 by1 m1 f1 n1 o0 d0 d1 d2 F1 r1
    go_wp2_with fail
    refine (HrP.out (a)).mono ?_
    rw [HQ.out]
    rintro e w2 ⟨S2, kv2, A2, c2, L2, rfl, x2, by2, r2, f2⟩
    obtain ⟨K2A, K2C, rfl, _, _⟩ := r2.kp.form
    have d2 := D2.out.fr f2 (by simp)
    have X2 := Lib.hid x2
    have By2 := Lib.hid by2
    have R2 := Lib.hid r2
    have By1' := Lib.hid (By1.out.fr f2 (by simp))
    have M2 := Lib.hid (M1.out.ext f2 x2 r2.pub)
    have FF2 := Lib.hid (FF1.out.trans (f2.mono (by simp)) (fun x hx => .inl hx))
    have D2' := Lib.hid d2
    have hls := d2.lt
    have hle1 := X1.out
    clear x2 by2 r2 f2 d2 e0 e1 e2 e3 e4 e5 e6 e7 hle1
    go_wp2_with (first
      | ((with_reducible refine gate_store 31 (.tmp 11) ?_); refine wpList_store_blk rfl 31 (.tmp 11) (.tmp 51) rfl w2.heap.size 31 (arR 0 0 (.slice none 0 0) 0) (arH Q.1 (.slice K2A L2.length K2C)) rfl rfl (Blk.new w2 31 _) rfl (by kernel_rfl) (by simp [Value.oneCell']) ?_; intro w3 B3 F3; obtain ⟨y0, y1, y2, y3⟩ := cells4 B3; have f23 : Fr [] w2 w3 := ((Fr.refl [] w2).alloc _).trans F3 (by simp); have q1 := (By1'.out.fr f23 (by simp)).string (P := Try.prog) 35 5 Try.underlying35 Try.underlying5 9 Try.underlying9; have q2 := (By2.out.fr f23 (by simp)).string (P := Try.prog) 35 5 Try.underlying35 Try.underlying5 9 Try.underlying9; have D3 := Lib.hid (D2'.out.fr f23 (by simp)); have F23 := Lib.hid f23; clear B3 F3 f23)
      | ((with_reducible refine gate_store 31 (.tmp 6) ?_); refine wpList_store_blk rfl 31 (.tmp 6) (.tmp 54) rfl (w.heap.size + 1 + 1) 31 (arR 0 0 (.slice none 0 0) 0) (arH Q.1 (.slice K2A L2.length K2C)) rfl rfl D3.out rfl (by kernel_rfl) (by simp [Value.oneCell']) ?_; intro w4 B4 F4))
    obtain ⟨r0, r1', r2', r3⟩ := cells4 B4
    refine bodyPost_ret (v := .tuple #[agH Q.1 (.slice K2A L2.length K2C), .bool true]) (by simp [results, Try.results12, go_sem, r0, r1', r2', r3]) rfl ?_
    rw [show doesV h ⟨1, a, d, true, .slice DA d.length DC⟩ = Q.1 by unfold doesV; rw [if_pos rfl, HAT.out, HQ.out]]
    exact does_last (by rw [← HQ.out]; exact put_inv HI.out _ _) X1.out (by simp) X2.out M2.out R2.out FF2.out F23.out F4 N1.out HSZ.out T2.out Pub.out
  · go_enter Try.func12, Try.ntmps12
    go_wp2_with fail
    refine (HPut.out _ F0.out (a)).mono ?_
    have hat : atV h ⟨1, a, d, true, .slice DA d.length DC⟩ = a := by simp [atV] <;> omega
    have HAT := Lib.hid hat
    clear hat
    generalize hQ : putV h (a) d = Q
    have HQ := Lib.hid hQ
    rintro e w1 ⟨S1, kv1, A1, c1, rfl, x1, by1, m1, f1, n1⟩
    have o0 : ∀ y, w.heap.size ≤ y → y ∉ g :: ob kvi := fun y hy hm => by have := T2.out y hm; omega
    have d0 := B0.out.fr f1 (o0 _ (by omega))
    have d1 := B1.out.fr f1 (o0 _ (by omega))
    have d2 := B2.out.fr f1 (o0 _ (by omega))
    obtain ⟨e0, e1, e2, e3⟩ := cells4 d0
    obtain ⟨e4, e5, e6, e7⟩ := cells4 d1
    have F1 : Fr (g :: ob kvi) w w1 := (F0.out.mono (by simp)).trans f1 (fun x hx => .inl hx)
    have X1 := Lib.hid x1
    have r1 : RPx S1 w1 (.slice KA L.length KC) h L := R.out.ext F1 T1.out X1.out.1 m1.pub
    have HrP : Hid (∀ p, Calls Try.prog 23 #[agH h (.slice KA L.length KC), .int .i64 p, .slice DA d.length DC] w1 (RPutPost S1 w1 (putV h p d).1 (putV h p d).2.1 (putV h p d).2.2)) := Lib.hid (fun p => rput_any r1 HI.out p _ d T (HD.out.fr F1 (fun x hx hs => HT.out x hs hx)) (by omega))
    have N1 := Lib.hid n1
    have HSZ := Lib.hid f1.size
    have By1 := Lib.hid by1
    have M1 := Lib.hid m1
    have FF1 := Lib.hid F1
    have D2 := Lib.hid d2
    clear x1 by1 m1 f1 n1 o0 d0 d1 d2 F1 r1
    go_wp2_with fail
    refine (HrP.out (a)).mono ?_
    rw [HQ.out]
    rintro e w2 ⟨S2, kv2, A2, c2, L2, rfl, x2, by2, r2, f2⟩
    obtain ⟨K2A, K2C, rfl, _, _⟩ := r2.kp.form
    have d2 := D2.out.fr f2 (by simp)
    have X2 := Lib.hid x2
    have By2 := Lib.hid by2
    have R2 := Lib.hid r2
    have By1' := Lib.hid (By1.out.fr f2 (by simp))
    have M2 := Lib.hid (M1.out.ext f2 x2 r2.pub)
    have FF2 := Lib.hid (FF1.out.trans (f2.mono (by simp)) (fun x hx => .inl hx))
    have D2' := Lib.hid d2
    have hls := d2.lt
    have hle1 := X1.out
    clear x2 by2 r2 f2 d2 e0 e1 e2 e3 e4 e5 e6 e7 hle1
    go_wp2_with (first
      | ((with_reducible refine gate_store 31 (.tmp 11) ?_); refine wpList_store_blk rfl 31 (.tmp 11) (.tmp 51) rfl w2.heap.size 31 (arR 0 0 (.slice none 0 0) 0) (arH Q.1 (.slice K2A L2.length K2C)) rfl rfl (Blk.new w2 31 _) rfl (by kernel_rfl) (by simp [Value.oneCell']) ?_; intro w3 B3 F3; obtain ⟨y0, y1, y2, y3⟩ := cells4 B3; have f23 : Fr [] w2 w3 := ((Fr.refl [] w2).alloc _).trans F3 (by simp); have q1 := (By1'.out.fr f23 (by simp)).string (P := Try.prog) 35 5 Try.underlying35 Try.underlying5 9 Try.underlying9; have q2 := (By2.out.fr f23 (by simp)).string (P := Try.prog) 35 5 Try.underlying35 Try.underlying5 9 Try.underlying9; have D3 := Lib.hid (D2'.out.fr f23 (by simp)); have F23 := Lib.hid f23; clear B3 F3 f23)
      | ((with_reducible refine gate_store 31 (.tmp 6) ?_); refine wpList_store_blk rfl 31 (.tmp 6) (.tmp 54) rfl (w.heap.size + 1 + 1) 31 (arR 0 0 (.slice none 0 0) 0) (arH Q.1 (.slice K2A L2.length K2C)) rfl rfl D3.out rfl (by kernel_rfl) (by simp [Value.oneCell']) ?_; intro w4 B4 F4))
    obtain ⟨r0, r1', r2', r3⟩ := cells4 B4
    refine bodyPost_ret (v := .tuple #[agH Q.1 (.slice K2A L2.length K2C), .bool true]) (by simp [results, Try.results12, go_sem, r0, r1', r2', r3]) rfl ?_
    rw [show doesV h ⟨1, a, d, true, .slice DA d.length DC⟩ = Q.1 by unfold doesV; rw [if_pos rfl, HAT.out, HQ.out]]
    exact does_last (by rw [← HQ.out]; exact put_inv HI.out _ _) X1.out (by simp) X2.out M2.out R2.out FF2.out F23.out F4 N1.out HSZ.out T2.out Pub.out
  · go_enter Try.func12, Try.ntmps12
    go_wp2_with fail
    refine (HPut.out _ F0.out (a + h.next)).mono ?_
    have hat : atV h ⟨1, a, d, true, .slice DA d.length DC⟩ = a + h.next := by simp [atV] <;> omega
    have HAT := Lib.hid hat
    clear hat
    generalize hQ : putV h (a + h.next) d = Q
    have HQ := Lib.hid hQ
    rintro e w1 ⟨S1, kv1, A1, c1, rfl, x1, by1, m1, f1, n1⟩
    have o0 : ∀ y, w.heap.size ≤ y → y ∉ g :: ob kvi := fun y hy hm => by have := T2.out y hm; omega
    have d0 := B0.out.fr f1 (o0 _ (by omega))
    have d1 := B1.out.fr f1 (o0 _ (by omega))
    have d2 := B2.out.fr f1 (o0 _ (by omega))
    obtain ⟨e0, e1, e2, e3⟩ := cells4 d0
    obtain ⟨e4, e5, e6, e7⟩ := cells4 d1
    have F1 : Fr (g :: ob kvi) w w1 := (F0.out.mono (by simp)).trans f1 (fun x hx => .inl hx)
    have X1 := Lib.hid x1
    have r1 : RPx S1 w1 (.slice KA L.length KC) h L := R.out.ext F1 T1.out X1.out.1 m1.pub
    have HrP : Hid (∀ p, Calls Try.prog 23 #[agH h (.slice KA L.length KC), .int .i64 p, .slice DA d.length DC] w1 (RPutPost S1 w1 (putV h p d).1 (putV h p d).2.1 (putV h p d).2.2)) := Lib.hid (fun p => rput_any r1 HI.out p _ d T (HD.out.fr F1 (fun x hx hs => HT.out x hs hx)) (by omega))
    have N1 := Lib.hid n1
    have HSZ := Lib.hid f1.size
    have By1 := Lib.hid by1
    have M1 := Lib.hid m1
    have FF1 := Lib.hid F1
    have D2 := Lib.hid d2
    clear x1 by1 m1 f1 n1 o0 d0 d1 d2 F1 r1
    go_wp2_with fail
    refine (HrP.out (a + h.next)).mono ?_
    rw [HQ.out]
    rintro e w2 ⟨S2, kv2, A2, c2, L2, rfl, x2, by2, r2, f2⟩
    obtain ⟨K2A, K2C, rfl, _, _⟩ := r2.kp.form
    have d2 := D2.out.fr f2 (by simp)
    have X2 := Lib.hid x2
    have By2 := Lib.hid by2
    have R2 := Lib.hid r2
    have By1' := Lib.hid (By1.out.fr f2 (by simp))
    have M2 := Lib.hid (M1.out.ext f2 x2 r2.pub)
    have FF2 := Lib.hid (FF1.out.trans (f2.mono (by simp)) (fun x hx => .inl hx))
    have D2' := Lib.hid d2
    have hls := d2.lt
    have hle1 := X1.out
    clear x2 by2 r2 f2 d2 e0 e1 e2 e3 e4 e5 e6 e7 hle1
    go_wp2_with (first
      | ((with_reducible refine gate_store 31 (.tmp 11) ?_); refine wpList_store_blk rfl 31 (.tmp 11) (.tmp 51) rfl w2.heap.size 31 (arR 0 0 (.slice none 0 0) 0) (arH Q.1 (.slice K2A L2.length K2C)) rfl rfl (Blk.new w2 31 _) rfl (by kernel_rfl) (by simp [Value.oneCell']) ?_; intro w3 B3 F3; obtain ⟨y0, y1, y2, y3⟩ := cells4 B3; have f23 : Fr [] w2 w3 := ((Fr.refl [] w2).alloc _).trans F3 (by simp); have q1 := (By1'.out.fr f23 (by simp)).string (P := Try.prog) 35 5 Try.underlying35 Try.underlying5 9 Try.underlying9; have q2 := (By2.out.fr f23 (by simp)).string (P := Try.prog) 35 5 Try.underlying35 Try.underlying5 9 Try.underlying9; have D3 := Lib.hid (D2'.out.fr f23 (by simp)); have F23 := Lib.hid f23; clear B3 F3 f23)
      | ((with_reducible refine gate_store 31 (.tmp 6) ?_); refine wpList_store_blk rfl 31 (.tmp 6) (.tmp 54) rfl (w.heap.size + 1 + 1) 31 (arR 0 0 (.slice none 0 0) 0) (arH Q.1 (.slice K2A L2.length K2C)) rfl rfl D3.out rfl (by kernel_rfl) (by simp [Value.oneCell']) ?_; intro w4 B4 F4))
    obtain ⟨r0, r1', r2', r3⟩ := cells4 B4
    refine bodyPost_ret (v := .tuple #[agH Q.1 (.slice K2A L2.length K2C), .bool true]) (by simp [results, Try.results12, go_sem, r0, r1', r2', r3]) rfl ?_
    rw [show doesV h ⟨1, a, d, true, .slice DA d.length DC⟩ = Q.1 by unfold doesV; rw [if_pos rfl, HAT.out, HQ.out]]
    exact does_last (by rw [← HQ.out]; exact put_inv HI.out _ _) X1.out (by simp) X2.out M2.out R2.out FF2.out F23.out F4 N1.out HSZ.out T2.out Pub.out
end Go.Proofs.Ytdlmhadcaagokaa
