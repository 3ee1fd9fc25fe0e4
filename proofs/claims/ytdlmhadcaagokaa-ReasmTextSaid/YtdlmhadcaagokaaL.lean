import Derived.Test.YtdlmhadcaagokaaK
import Derived.Deep.DeepCutAuto
namespace Go.Proofs.Ytdlmhadcaagokaa
open Go.RowKit Go.Deep

def CopyPost (S : Nat → Prop) (w : World) (h : Hp) (e : Ending) (w' : World) : Prop :=
  ∃ kv2, e = .returned (ptr w.heap.size) ∧ HP S w' w.heap.size kv2 h ∧ Fr [] w w' ∧ (∀ b, kv2.ownBlock = some b → w.heap.size < b) ∧ w.heap.size < w'.heap.size
theorem copy_post {S : Nat → Prop} {w w1 : World} {g : Nat} {kv kv2 ev : Value} {h : Hp} {L : List (Pc × Value)} (m : HPx S w g kv ev h L) (f12 : Fr [] w w1) (b1 : Blk w1 w.heap.size 58 #[.int .i64 h.most, .int .i64 h.next, kv, ev, .bool true])
    (k2 : Kp 67 S w1 kv2 L) (hk : ∀ b, kv2.ownBlock = some b → w.heap.size < b) : CopyPost S w h (.returned (ptr w.heap.size)) (w1.setCell ⟨w.heap.size, 2, none⟩ kv2) := by
  have f2 := (Fr.refl [w.heap.size] w1).setCell (p := ⟨w.heap.size, 2, none⟩) (.inl (by simp)) kv2
  have m1 := m.fr f12 (by simp) (by simp) (by simp)
  have nS : ¬ S w.heap.size := fun hs => by have := m.pub _ hs; omega
  have hO : ∀ x ∈ [w.heap.size], ¬ S x := by intro x hx; simp at hx; subst hx; exact nS
  refine ⟨_, rfl, ⟨ev, L, ?_, ?_, m.kept, ?_, ?_, nS, ?_⟩, f12.trans f2 (by simp), hk, Nat.lt_of_lt_of_le b1.lt f2.size⟩
  · simpa using b1.set_ 2 kv2
  · exact k2.fr f2 hO (fun b hb => by simp; rintro rfl; exact own_ne k2.own b1 (by decide) hb)
  · rcases m1.fin with h1 | ⟨fa, fb, h1, h2, h3, h4⟩
    · exact .inl h1
    · exact .inr ⟨fa, fb, h1, h2, h3, (f2.cell (p := ⟨fb, 0, none⟩) (m1.pub fb h3) (fun hm => hO _ hm h3)).trans h4⟩
  · intro b hb
    exact Nat.lt_of_lt_of_le (m1.pub b hb) f2.size
  · intro b hb hs
    have h1 := hk b hb
    have h2 := m.pub b hs
    omega
theorem copy_hp {S : Nat → Prop} {w : World} {g : Nat} {kv : Value} {h : Hp} (m : HP S w g kv h) (hi : Inv h) : Calls Try.prog 21 #[ptr g] w (CopyPost S w h) := by
  obtain ⟨ev, L, m⟩ := m
  obtain ⟨c0, c1, c2, c3, c4⟩ := m.cells
  have hg := m.blk.lt
  have hL : L.length ≤ 64 := by have h1 := hi.len; have h2 := hi.m1; rw [m.len] at h1; omega
  have fa : Fr [] w (w.alloc (.cells #[.int .i64 h.most, .int .i64 h.next, kv, ev, .bool true] 58)) := (Fr.refl _ _).alloc _
  have bn := Blk.new w 58 #[.int .i64 h.most, .int .i64 h.next, kv, ev, .bool true]
  have q2 := cell_al c2 (.cells #[.int .i64 h.most, .int .i64 h.next, kv, ev, .bool true] 58)
  have hcl := cloneP_any _ (m.kp.fr fa (by simp) (by simp)) (by omega)
  have HCL := Lib.hid hcl
  have M := Lib.hid m
  have FA := Lib.hid fa
  have BN := Lib.hid bn
  have hev : (∃ b, ev = ptr b) ∨ ev = .pointer none := by
    rcases m.fin with ⟨_, rfl⟩ | ⟨_, b, _, rfl, _⟩
    · exact .inr rfl
    · exact .inl ⟨b, rfl⟩
  obtain ⟨KA, KC, rfl, _, _⟩ := m.kp.form
  clear hcl m fa bn hi
  rcases hev with ⟨eb, rfl⟩ | rfl
  all_goals
    go_enter Try.func21, Try.ntmps21
    go_wp2_with (go_at_call 26; refine (none_hp c4).mono ?_; rintro e w' ⟨rfl, rfl⟩)
    refine HCL.out.mono ?_
    rintro e w1 ⟨A2, c2', rfl, k2, f1, hk⟩
    have b1 := BN.out.fr f1 (by simp)
    have y0 : w1.cell? ⟨w.heap.size, 2, none⟩ = some (.slice KA L.length KC) := by simpa using b1.cell 2
    have y1 := b1.frozen 2
    have y2 := b1.lt
    have K2 := Lib.hid k2
    have F1 := Lib.hid f1
    have HK := Lib.hid hk
    have B1 := Lib.hid b1
    clear k2 f1 hk b1
    go_wp2_with fail
    go_ret
    exact copy_post M.out (FA.out.trans F1.out (by simp)) B1.out K2.out (fun b hb => by have h1 := HK.out b hb; simp at h1; omega)

/-! ### Same -/
theorem bytes_eq (S : Nat → Prop) (w : World) (v u : Value) (d : List Int) (h1 : Byt S w v d) (h2 : Byt S w u d) : Calls Try.prog 38 #[v, u] w fun e w' => e = .returned (.bool true) ∧ w = w' := by
  have q1 := h1.string (P := Try.prog) 35 5 Try.underlying35 Try.underlying5 9 Try.underlying9
  have q2 := h2.string (P := Try.prog) 35 5 Try.underlying35 Try.underlying5 9 Try.underlying9
  obtain ⟨A, c, rfl, _, _⟩ := h1.form
  obtain ⟨A', c', rfl, _, _⟩ := h2.form
  clear h1 h2
  generalize strOfNums d = s at *
  go_enter Try.func38, Try.ntmps38
  go_wp2
  go_ret
  exact ⟨rfl, rfl⟩
theorem same1_eq (S : Nat → Prop) (w : World) (a : Int) (v u : Value) (d : List Int) (h1 : Byt S w v d) (h2 : Byt S w u d) : Calls Try.prog 37 #[agp a v, agp a u] w fun e w' => e = .returned (.bool true) ∧ Fr [] w w' := by
  have hq : ∀ W, Fr [] w W → Calls Try.prog 38 #[v, u] W fun e w' => e = .returned (.bool true) ∧ W = w' := fun W f => bytes_eq S W v u d (h1.fr f (by simp)) (h2.fr f (by simp))
  have HQ := Lib.hid hq
  obtain ⟨A, c, rfl, _, _⟩ := h1.form
  obtain ⟨A', c', rfl, _, _⟩ := h2.form
  clear h1 h2 hq
  go_enter Try.func37, Try.ntmps37
  go_wp2_with (go_at_call 38; refine (HQ.out _ (((Fr.refl _ _).alloc _).alloc _)).mono ?_; rintro e w' ⟨rfl, rfl⟩)
  go_ret
  exact ⟨rfl, ((Fr.refl _ _).alloc _).alloc _⟩
theorem equal_eq (S : Nat → Prop) (w : World) (kv kv' : Value) (L L' : List (Pc × Value)) (h1 : Kp 67 S w kv L) (h2 : Kp 67 S w kv' L') (he : L.map (·.1) = L'.map (·.1)) (hl : L.length ≤ 64) :
    Calls Try.prog 39 #[kv, kv', .func (.func 37) #[] #[]] w fun e w' => e = .returned (.bool true) ∧ Fr [] w w' := by
  have hlen : L'.length = L.length := by have := congrArg List.length he; simpa using this.symm
  have K1 := Lib.hid h1
  have K2 := Lib.hid h2
  have HE := Lib.hid he
  have HL := Lib.hid hlen
  obtain ⟨KA, KC, rfl, hKn, hKc⟩ := h1.form
  obtain ⟨KA', KC', rfl, hKn', hKc'⟩ := h2.form
  clear h1 h2 he
  rw [hlen] at hKn' ⊢
  clear hlen
  go_enter Try.func39, Try.ntmps39
  go_wp2
  go_loopw [17] (fun s17 wr => ∃ k : Nat, k ≤ L.length ∧ s17 = .int .i64 k ∧ Fr [] w wr) (fun s17 _ => L.length - (intOf s17).toNat)
  case atStart => exact ⟨0, by omega, rfl, Fr.refl _ _⟩
  case round =>
    obtain ⟨k, hk, rfl, fk⟩ := hrel
    by_cases hlt : k < L.length
    · obtain ⟨b, _, x, hv, hx, d0, d1, hby⟩ := (K1.out.fr fk (by simp) (by simp)).at_ hlt
      injection hv with hv _ hc
      subst hv hc
      obtain ⟨b', _, y, hv, hy, d2, d3, hby'⟩ := (K2.out.fr fk (by simp) (by simp)).at_ (k := k) (by rw [HL.out]; exact hlt)
      injection hv with hv _ hc
      subst hv hc
      have hxy : x.1 = y.1 := by
        have h3 : (L.map (·.1))[k]? = some x.1 := by simp [hx]
        have h4 : (L'.map (·.1))[k]? = some y.1 := by simp [hy]
        rw [HE.out, h4] at h3
        injection h3 with h3
        exact h3.symm
      rw [← hxy] at d2 hby'
      obtain ⟨A, c, hxv, _, _⟩ := hby.form
      obtain ⟨A', c', hyv, _, _⟩ := hby'.form
      rw [hxv] at d1 hby
      rw [hyv] at d3 hby'
      have hl1 := World.block_lt_of_cell? wr _ d0
      have hl2 := World.block_lt_of_cell? wr _ d2
      dsimp only at hl1 hl2
      have f2 : Fr [] wr ((wr.alloc (bxp x.1.at_ (.slice A x.1.d.length c))).alloc (bxp x.1.at_ (.slice A' x.1.d.length c'))) := ((Fr.refl _ _).alloc _).alloc _
      have hcall := same1_eq S _ x.1.at_ (.slice A x.1.d.length c) (.slice A' x.1.d.length c') x.1.d (hby.fr f2 (by simp)) (hby'.fr f2 (by simp))
      have HC := Lib.hid hcall
      have F2 := Lib.hid f2
      have Fk := Lib.hid fk
      clear hcall f2 fk hby hby' hx hy hxy hxv hyv
      go_wp2_with fail
      refine HC.out.mono ?_
      rintro e w1 ⟨rfl, f1⟩
      go_wp2_with fail
      go_roundw
      case rel => exact ⟨k + 1, by omega, by go_num, (Fk.out.trans F2.out (by simp)).trans f1 (by simp)⟩
      case measure => simp [intOf]; omega
    · obtain rfl : L.length = k := by omega
      go_wp2_with fail
      go_ret
      exact ⟨rfl, fk⟩
end Go.Proofs.Ytdlmhadcaagokaa
