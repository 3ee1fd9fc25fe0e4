import Derived.Test.YtdlmhadcaagokaaA
import Derived.OwnWalk
namespace Go.Proofs.Ytdlmhadcaagokaa
open Go.RowKit

theorem info_u8 : (Try.prog.info? 5).map (fun i => (i.zero, i.size, i.bytes)) = some (some (.int .u8 0), 1, 1) := by kernel_rfl
theorem info_pc : (Try.prog.info? 67).map (fun i => (i.zero, i.size, i.bytes)) = some (some (.agg #[.int .i64 0, .slice none 0 0]), 2, 32) := by kernel_rfl
theorem info_i64 : (Try.prog.info? 2).map (fun i => (i.zero, i.size, i.bytes)) = some (some (.int .i64 0), 1, 8) := by kernel_rfl

theorem cell_al {w : World} {a : Addr} {v : Value} (h : w.cell? a = some v) (o : Obj) : (w.alloc o).cell? a = some v := by
  rw [World.cell?_alloc_lt w o _ (World.block_lt_of_cell? w _ h)]; exact h
theorem fr_cell {w w' : World} {a : Addr} {v : Value} (f : Fr [] w w') (h : w.cell? a = some v) : w'.cell? a = some v := (f.cell (World.block_lt_of_cell? w a h) (by simp)).trans h
theorem own_empty (w : World) (e : TypeId) (size : Nat) : (w.alloc (.cells #[] e)).ownsRow 0 e size (.slice (some ⟨w.heap.size, 0, none⟩) 0 0) 0 [] := by
  have := World.ownsRow_lit (base := 0) (e := e) (size := size) w #[] 0 (Nat.zero_le _) (Nat.zero_le _) (by simp)
  simpa using this

theorem cloneB_any {S : Nat → Prop} {v : Value} {l : List Int} (w : World) (h : Byt S w v l) (hl : l.length ≤ 1000000) :
    Calls Try.prog 27 #[v] w fun e w' => ∃ A c, e = .returned (.slice A l.length c) ∧ w'.ownsRow 0 5 1 (.slice A l.length c) l.length (byts l) ∧ Fr [] w w' ∧ (∀ b, (Value.slice A l.length c).ownBlock = some b → w.heap.size ≤ b) := by
  obtain ⟨A, c, rfl, hn, hc⟩ := h.form
  obtain ⟨i0, hi, hz0, hz1, hz2⟩ := info_parts info_u8
  cases A with
  | none =>
    obtain ⟨h0, h1⟩ := Sl.none_ h
    obtain rfl : l = [] := List.eq_nil_of_length_eq_zero h0
    clear h h1 h0
    have qn := fun (w : World) a n c n' c' => Lib.run_eql_slice_nil (P := Try.prog) w 35 5 a n c n' c' Try.underlying35
    go_enter Try.func27, Try.ntmps27
    go_wp2
    go_ret
    exact ⟨none, 0, rfl, World.ownsRow_nil _ _ _ _, Fr.refl _ _, by simp [Value.ownBlock]⟩
  | some ad =>
    have H := Lib.hid h
    have h2 : l.length * 1 ≤ 140737488355328 := by omega
    have h3 : l.length ≤ maxLen := by unfold maxLen; omega
    clear hn hc
    have H2 := Lib.hid h2
    have H3 := Lib.hid h3
    clear h2 h3
    clear h
    have qn := fun (w : World) a n c n' c' => Lib.run_eql_slice_nil (P := Try.prog) w 35 5 a n c n' c' Try.underlying35
    go_enter Try.func27, Try.ntmps27
    go_wp2_with (at_builtin; refine wpList_append_sl _ rfl (.tmp 5) (.tmp 6) 35 rfl 5 i0 (.int .u8 0) 1 1 Try.underlying35 hi hz0 hz1 hz2 rfl (by decide) (.slice (some ⟨w.heap.size, 0, none⟩) 0 0) 0 [] (by rfl) (own_empty _ _ _) S (.slice (some ad) l.length c) l.length (byts l) rfl (Sl.fr H.out ((Fr.refl [] _).alloc _) (by simp)) (byts_one l) (by rw [Nat.zero_add]; exact H3.out) (by rw [Nat.zero_add]; exact H2.out) l.length (Nat.zero_add _) ?_; intro A' c' w' h4 h5 h6)
    go_ret
    refine ⟨A', c', rfl, by simpa using h4, Fr.trans ((Fr.refl [] w).alloc _) h5 (by simp [ob, Value.ownBlock]), fun b hb => ?_⟩
    rcases h6 b hb with h7 | h7
    · simp [Value.ownBlock] at h7; omega
    · simp at h7; omega

theorem cloneP_any {S : Nat → Prop} {kv : Value} {L : List (Pc × Value)} (w : World) (h : Kp 67 S w kv L) (hl : L.length ≤ 1000000) :
    Calls Try.prog 36 #[kv] w fun e w' => ∃ A c, e = .returned (.slice A L.length c) ∧ Kp 67 S w' (.slice A L.length c) L ∧ Fr [] w w' ∧ (∀ b, (Value.slice A L.length c).ownBlock = some b → w.heap.size ≤ b) := by
  obtain ⟨A, c, rfl, hn, hc⟩ := h.form
  obtain ⟨i0, hi, hz0, hz1, hz2⟩ := info_parts info_pc
  cases A with
  | none =>
    have h0 : L.length = 0 := by
      rcases h.own.2 with ⟨_, h⟩ | ⟨g, cap, cur, hv, _⟩
      · exact h
      · cases hv
    obtain rfl : L = [] := List.eq_nil_of_length_eq_zero h0
    clear h h0
    have qn := fun (w : World) a n c n' c' => Lib.run_eql_slice_nil (P := Try.prog) w 55 67 a n c n' c' Try.underlying55
    go_enter Try.func36, Try.ntmps36
    go_wp2
    go_ret
    exact ⟨none, 0, rfl, ⟨World.ownsRow_nil _ _ _ _, by simp⟩, Fr.refl _ _, by simp [Value.ownBlock]⟩
  | some ad =>
    have hs := Sl.of_own (S := fun _ => True) h.own (fun _ _ => trivial)
    have hb := h.byt
    have h1 := h.one
    have h2 : L.length * 32 ≤ 140737488355328 := by omega
    have h3 : L.length ≤ maxLen := by unfold maxLen; omega
    have H := Lib.hid hs
    have HB := Lib.hid hb
    have H1 := Lib.hid h1
    have H2 := Lib.hid h2
    have H3 := Lib.hid h3
    clear h2 h3 h hs hn hc h1 hb
    have qn := fun (w : World) a n c n' c' => Lib.run_eql_slice_nil (P := Try.prog) w 55 67 a n c n' c' Try.underlying55
    go_enter Try.func36, Try.ntmps36
    go_wp2_with (at_builtin; refine wpList_append_sl _ rfl (.tmp 5) (.tmp 6) 55 rfl 67 i0 (.agg #[.int .i64 0, .slice none 0 0]) 2 32 Try.underlying55 hi hz0 hz1 hz2 rfl (by decide) (.slice (some ⟨w.heap.size, 0, none⟩) 0 0) 0 [] (by rfl) (own_empty _ _ _) (fun _ => True) (.slice (some ad) L.length c) L.length (pcs L) rfl (Sl.fr H.out ((Fr.refl [] _).alloc _) (by simp)) H1.out (by rw [Nat.zero_add]; exact H3.out) (by rw [Nat.zero_add]; exact H2.out) L.length (Nat.zero_add _) ?_; intro A' c' w' h4 h5 h6)
    go_ret
    have F : Fr [] w w' := Fr.trans ((Fr.refl [] w).alloc _) h5 (by simp [ob, Value.ownBlock])
    refine ⟨A', c', rfl, ⟨by simpa using h4, fun x hx => (HB.out x hx).fr F (by simp)⟩, F, fun b hb => ?_⟩
    rcases h6 b hb with h7 | h7
    · simp [Value.ownBlock] at h7; omega
    · simp at h7; omega

/-! ### The closures -/
/-- ready$1$1: does it begin no later than Next? -/
theorem r11_any (a : Int) (dv : Value) (g hb : Nat) (n : Int) (w : World) (c0 : w.cell? ⟨hb, 0, none⟩ = some (ptr g)) (c1 : w.cell? ⟨g, 1, none⟩ = some (.int .i64 n)) (d1 : dv.oneCell' = true) (A : Option Addr) (ln c : Nat) (hd : dv = .slice A ln c) :
    Calls Try.prog 43 #[agp a dv, .pointer (some ⟨hb, 0, none⟩)] w fun e w' => e = .returned (.bool (decide (a ≤ n))) ∧ Fr [] w w' := by
  subst hd
  clear d1
  have l0 := World.block_lt_of_cell? w _ c0
  have l1 := World.block_lt_of_cell? w _ c1
  dsimp only at l0 l1
  go_enter Try.func43, Try.ntmps43
  go_wp2_with fail
  go_quiet (fail)
  go_wp2
  go_ret
  exact ⟨rfl, ((Fr.refl _ _).alloc _).drewN _⟩
theorem r12_any (a b : Int) (A B : Option Addr) (ln c ln' c' : Nat) (w : World) :
    Calls Try.prog 44 #[agp a (.slice A ln c), agp b (.slice B ln' c')] w fun e w' => e = .returned (.bool (decide (a < b))) ∧ Fr [] w w' := by
  go_enter Try.func44, Try.ntmps44
  go_wp2
  go_ret
  exact ⟨rfl, ((Fr.refl _ _).alloc _).alloc _⟩
theorem p2_any (a b : Int) (A B : Option Addr) (ln c ln' c' : Nat) (w : World) :
    Calls Try.prog 33 #[agp a (.slice A ln c), agp b (.slice B ln' c')] w fun e w' => e = .returned (.bool false) ∧ Fr [] w w' := by
  go_enter Try.func33, Try.ntmps33
  go_wp2
  go_ret
  exact ⟨rfl, ((Fr.refl _ _).alloc _).alloc _⟩
theorem p1_any (a b : Int) (A B : Option Addr) (ln c ln' c' pb : Nat) (w : World) (c0 : w.cell? ⟨pb, 0, none⟩ = some (.int .i64 b)) (c1 : w.cell? ⟨pb, 1, none⟩ = some (.slice B ln' c')) :
    Calls Try.prog 32 #[agp a (.slice A ln c), .pointer (some ⟨pb, 0, none⟩)] w fun e w' => e = .returned (.bool ((a == b) && decide (ln' ≤ ln))) ∧ Fr [] w w' := by
  have l0 := World.block_lt_of_cell? w _ c0
  dsimp only at l0
  cases h : (a == b)
  · go_enter Try.func32, Try.ntmps32
    go_wp2
    go_ret
    exact ⟨rfl, (Fr.refl _ _).alloc _⟩
  · go_enter Try.func32, Try.ntmps32
    go_wp2
    go_ret
    exact ⟨rfl, (Fr.refl _ _).alloc _⟩
theorem e1_any (a b : Int) (A : Option Addr) (ln c ab : Nat) (w : World) (c0 : w.cell? ⟨ab, 0, none⟩ = some (.int .i64 b)) (h0 : 0 ≤ a) (h1 : a ≤ 4611686018427387968) (hn : ln ≤ 1000000) :
    Calls Try.prog 35 #[agp a (.slice A ln c), .pointer (some ⟨ab, 0, none⟩)] w fun e w' => e = .returned (.bool (decide (b < a + ln))) ∧ Fr [] w w' := by
  go_enter Try.func35, Try.ntmps35
  go_wp2_with fail
  refine wp_region_grew (by kernel_rfl) (by kernel_rfl) ?_
  have q0 := Grew.cell (w := w.alloc (bxp a (.slice A ln c))) (a := ⟨w.heap.size, 0, none⟩) (v := .int .i64 a) ((Blk.new w 67 #[.int .i64 a, .slice A ln c]).cell 0)
  have q1 := Grew.cell (w := w.alloc (bxp a (.slice A ln c))) (a := ⟨w.heap.size, 1, none⟩) (v := .slice A ln c) ((Blk.new w 67 #[.int .i64 a, .slice A ln c]).cell 1)
  have q2 := Grew.cell (w := w.alloc (bxp a (.slice A ln c))) (a := ⟨ab, 0, none⟩) (v := .int .i64 b) (cell_al c0 _)
  repeat (go_big_quiet_step ((go_at_call 28; exact grew_call (behind_fr a A ln c _ h0 h1 hn))))
  refine wpQuiet_nil ?_
  intro W1 f1
  go_wp2
  go_ret
  exact ⟨rfl, ((Fr.refl _ _).alloc _).trans f1 (by simp)⟩
end Go.Proofs.Ytdlmhadcaagokaa
