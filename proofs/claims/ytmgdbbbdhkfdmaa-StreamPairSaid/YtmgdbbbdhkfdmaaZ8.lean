import Derived.Test.YtmgdbbbdhkfdmaaZ4
import Derived.Deep.DeepCutAuto
import Derived.Test.YtmgdbbbdhkfdmaaZ1
set_option linter.unusedSimpArgs false
set_option linter.unusedVariables false
namespace Go.Proofs.Ytmgdbbbdhkfdmaa
set_option maxRecDepth 100000
open Go.RowKit Go.Deep

def IdxPost (w : World) (p : Pc → Bool) (l : List Pc) (e : Ending) (w' : World) : Prop := ∃ r : Int, e = .returned (.int .i64 r) ∧ decide (0 ≤ r) = l.any p ∧ Fr [] w w'
theorem any_take (p : Pc → Bool) (l : List Pc) (k : Nat) (x : Pc) (h : l[k]? = some x) : (l.take (k + 1)).any p = ((l.take k).any p || p x) := by
  rw [List.take_add_one, h]; simp
theorem index_end (S : Nat → Prop) (w : World) (ab : Nat) (a : Int) (d0 : w.cell? ⟨ab, 0, none⟩ = some (.int .i64 a)) (kv : Value) (L : List (Pc × Value)) (h : Kp 120 S w kv L) (hl : L.length ≤ 64)
    (hpc : ∀ x ∈ L, 0 ≤ x.1.at_ ∧ x.1.at_ ≤ 4611686018427387904 ∧ 1 ≤ x.1.d.length ∧ x.1.d.length ≤ 64) :
    Calls Try.prog 95 #[kv, .func (.func 85) #[] #[.pointer (some ⟨ab, 0, none⟩)]] w (IdxPost w (over a) (L.map (·.1))) := by
  obtain ⟨KA, KC, rfl, hKn, hKc⟩ := h.form
  have K := Lib.hid h
  have HPC := Lib.hid hpc
  clear h hpc
  go_enter Try.func95, Try.ntmps95
  go_wp2
  go_loopw [8] (fun s8 wr => ∃ k : Nat, k ≤ L.length ∧ s8 = .int .i64 k ∧ ((L.map (·.1)).take k).any (over a) = false ∧ Fr [] w wr) (fun s8 _ => L.length - (intOf s8).toNat)
  case atStart => exact ⟨0, by omega, rfl, rfl, Fr.refl _ _⟩
  case round =>
    obtain ⟨k, hk, rfl, hany, fk⟩ := hrel
    have HA := Lib.hid hany
    clear hany
    by_cases hlt : k < L.length
    · obtain ⟨b, _, x, hv, hx, c0, c1, hby⟩ := (K.out.fr fk (by simp) (by simp)).at_ hlt
      injection hv with hv _ hc
      subst hv hc
      obtain ⟨A, c, hxv, _, _⟩ := hby.form
      rw [hxv] at c1
      have hp := HPC.out x (List.mem_of_getElem? hx)
      have hg : (L.map (·.1))[k]? = some x.1 := by simp [hx]
      have hcall := e1_any x.1.at_ a A x.1.d.length c ab wr (fr_cell fk d0) hp.1 (by omega) (by omega)
      have hov : decide (a < x.1.at_ + (x.1.d.length : Int)) = over a x.1 := rfl
      rw [hov] at hcall
      have HC := Lib.hid hcall
      have HG := Lib.hid hg
      have Fk := Lib.hid fk
      clear hcall hov hg hx hxv hby fk hp
      cases ho : over a x.1
      · rw [ho] at HC
        have HO := Lib.hid ho
        clear ho
        go_wp2_with fail
        refine HC.out.mono ?_
        rintro e w1 ⟨rfl, f1⟩
        go_wp2_with fail
        go_roundw
        case rel => exact ⟨k + 1, by omega, by go_num, by rw [any_take _ _ _ _ HG.out, HA.out, HO.out]; rfl, Fk.out.trans f1 (by simp)⟩
        case measure => simp [intOf]; omega
      · rw [ho] at HC
        have HO := Lib.hid ho
        clear ho
        go_wp2_with fail
        refine HC.out.mono ?_
        rintro e w1 ⟨rfl, f1⟩
        go_wp2_with fail
        go_ret
        refine ⟨k, rfl, ?_, Fk.out.trans f1 (by simp)⟩
        have h1 : (L.map (·.1)).any (over a) = true := List.any_eq_true.2 ⟨x.1, List.mem_of_getElem? HG.out, HO.out⟩
        rw [h1]
        simp
    · obtain rfl : L.length = k := by omega
      go_wp2_with fail
      go_ret
      refine ⟨-1, rfl, ?_, fk⟩
      have := HA.out
      rw [List.take_of_length_le (by simp)] at this
      rw [this]
      rfl
theorem contains_end (S : Nat → Prop) (w : World) (ab : Nat) (a : Int) (d0 : w.cell? ⟨ab, 0, none⟩ = some (.int .i64 a)) (kv : Value) (L : List (Pc × Value)) (h : Kp 120 S w kv L) (hl : L.length ≤ 64)
    (hpc : ∀ x ∈ L, 0 ≤ x.1.at_ ∧ x.1.at_ ≤ 4611686018427387904 ∧ 1 ≤ x.1.d.length ∧ x.1.d.length ≤ 64) :
    Calls Try.prog 84 #[kv, .func (.func 85) #[] #[.pointer (some ⟨ab, 0, none⟩)]] w fun e w' => e = .returned (.bool ((L.map (·.1)).any (over a))) ∧ Fr [] w w' := by
  have hi := index_end S w ab a d0 kv L h hl hpc
  have HI := Lib.hid hi
  obtain ⟨KA, KC, rfl, _, _⟩ := h.form
  clear hi h hpc d0
  go_enter Try.func84, Try.ntmps84
  go_wp2_with fail
  refine HI.out.mono ?_
  rintro e w1 ⟨r, rfl, hr, f1⟩
  have HR := Lib.hid hr
  clear hr
  go_wp2_with fail
  go_ret
  exact ⟨retb_eq HR.out, f1⟩
end Go.Proofs.Ytmgdbbbdhkfdmaa

namespace Go.Proofs.Ytmgdbbbdhkfdmaa
set_option maxRecDepth 100000
open Go.RowKit Go.Deep

/-- What End answers. -/
def EndPost (S : Nat → Prop) (w : World) (g : Nat) (kv : Value) (h' : Hp) (err : Int) (e : Ending) (w' : World) : Prop :=
  ∃ S', e = .returned (.int .i64 err) ∧ Ext w S S' ∧ HP S' w' g kv h' ∧ Fr [g] w w'
theorem end_same {S : Nat → Prop} {w w' : World} {g : Nat} {kv : Value} {h : Hp} (m : HP S w g kv h) (f : Fr [] w w') (err : Int) : EndPost S w g kv h err (.returned (.int .i64 err)) w' := by
  obtain ⟨ev, L, m⟩ := m
  exact ⟨S, rfl, Ext.refl _ _, ⟨ev, L, m.fr f (by simp) (by simp) (by simp)⟩, f.mono (by simp)⟩
theorem end_set {S : Nat → Prop} {w W : World} {g b : Nat} {kv ev : Value} {h : Hp} {L : List (Pc × Value)} {a : Int} (m : HPx S w g kv ev h L) (f : Fr [] w W) (hb : W.cell? ⟨b, 0, none⟩ = some (.int .i64 a)) (hn : w.heap.size ≤ b) (hg : b ≠ g) (hk : kv.ownBlock ≠ some b) :
    EndPost S w g kv { h with fin := some a } 0 (.returned (.int .i64 0)) (W.setCell ⟨g, 3, none⟩ (ptr b)) := by
  have m1 := m.fr f (by simp) (by simp) (by simp)
  have f2 := (Fr.refl [g] W).setCell (p := ⟨g, 3, none⟩) (.inl (by simp)) (ptr b)
  have hO : ∀ x ∈ [g], ¬ S x := by intro x hx; simp at hx; subst hx; exact m.offg
  have hlt := World.block_lt_of_cell? W _ hb
  dsimp only at hlt
  refine ⟨fun x => S x ∨ x = b, rfl, ⟨fun x h => .inl h, fun x h => h.imp id (fun e => by omega)⟩, ⟨ptr b, L, ?_, ?_, m.kept, ?_, ?_, ?_, ?_⟩, (f.mono (by simp)).trans f2 (fun x hx => .inl hx)⟩
  · simpa using m1.blk.set_ 3 (ptr b)
  · exact (m1.kp.fr f2 hO (fun b hb' => by simp; rintro rfl; exact own_ne m1.kp.own m1.blk (by decide) hb')).mono fun x h => .inl h
  · refine .inr ⟨a, b, rfl, rfl, .inr rfl, ?_⟩
    rw [f2.cell (p := ⟨b, 0, none⟩) hlt (by simpa using hg)]
    exact hb
  · intro x hx
    rcases hx with h1 | rfl
    · exact Nat.lt_of_lt_of_le (m1.pub x h1) f2.size
    · exact Nat.lt_of_lt_of_le hlt f2.size
  · rintro (h1 | h1)
    · exact m.offg h1
    · exact hg h1.symm
  · rintro x hx (h1 | h1)
    · exact m.offk x hx h1
    · exact hk (h1 ▸ hx)

set_option maxHeartbeats 1000000 in
theorem end_arg {S : Nat → Prop} {w : World} {g : Nat} {kv : Value} {h : Hp} (m : HP S w g kv h) (a : Int) (ha : a < 0 ∨ 4611686018427387904 < a) :
    Calls Try.prog 77 #[ptr g, .int .i64 a] w (EndPost S w g kv h 2) := by
  have M := Lib.hid m
  obtain ⟨ev, L, m⟩ := m
  have c4 := m.cells.2.2.2.2
  have hg := m.blk.lt
  clear m
  have q4 := cell_al c4 (.cells #[.int .i64 a] 2)
  by_cases h0 : a < 0
  · go_enter Try.func77, Try.ntmps77
    go_wp2_with (go_at_call 70; refine (none_hp q4).mono ?_; rintro e w' ⟨rfl, rfl⟩)
    go_ret
    exact end_same M.out ((Fr.refl _ _).alloc _) 2
  · have h1 : 4611686018427387904 < a := by omega
    clear ha
    go_enter Try.func77, Try.ntmps77
    go_wp2_with (go_at_call 70; refine (none_hp q4).mono ?_; rintro e w' ⟨rfl, rfl⟩)
    go_ret
    exact end_same M.out ((Fr.refl _ _).alloc _) 2

set_option maxRecDepth 100000 in
set_option maxHeartbeats 2000000 in
theorem end_go {S : Nat → Prop} {w : World} {g : Nat} {kv : Value} {h : Hp} (m : HP S w g kv h) (hi : Inv h) (a : Int) (ha : 0 ≤ a) (ha2 : a ≤ 4611686018427387904) :
    Calls Try.prog 77 #[ptr g, .int .i64 a] w (EndPost S w g kv (if (other h.fin a || decide (a < h.next) || h.kept.any (over a)) = true then h else { h with fin := some a }) (if (other h.fin a || decide (a < h.next) || h.kept.any (over a)) = true then 250 else 0)) := by
  have M := Lib.hid m
  obtain ⟨ev, L, m⟩ := m
  obtain ⟨c0, c1, c2, c3, c4⟩ := m.cells
  have hg := m.blk.lt
  have M0 := Lib.hid m
  have hL : L.length ≤ 64 := by have h1 := hi.len; have h2 := hi.m1; rw [m.len] at h1; omega
  have hpc : ∀ x ∈ L, 0 ≤ x.1.at_ ∧ x.1.at_ ≤ 4611686018427387904 ∧ 1 ≤ x.1.d.length ∧ x.1.d.length ≤ 64 := fun x hx => hi.pc x.1 (by rw [m.kept]; exact List.mem_map.2 ⟨x, hx, rfl⟩)
  have q4 := cell_al c4 (.cells #[.int .i64 a] 2)
  have bn := Blk.new w 2 #[.int .i64 a]
  have bn0 : (w.alloc (.cells #[.int .i64 a] 2)).cell? ⟨w.heap.size, 0, none⟩ = some (.int .i64 a) := bn.cell 0
  have fa : Fr [] w (w.alloc (.cells #[.int .i64 a] 2)) := (Fr.refl _ _).alloc _
  have hco := fun p : Grew (w.alloc (.cells #[.int .i64 a] 2)) => grew_call (contains_end S p.W w.heap.size a (Grew.cell bn0 p) kv L ((m.kp.fr fa (by simp) (by simp)).fr p.fr (by simp) (by simp)) hL hpc)
  rw [← m.kept] at hco
  have HCO := Lib.hid hco
  have x0 := Grew.cell bn0
  have x1 := Grew.cell (cell_al c1 (.cells #[.int .i64 a] 2))
  have x2 := Grew.cell (cell_al c2 (.cells #[.int .i64 a] 2))
  have x3 := Grew.cell (cell_al c3 (.cells #[.int .i64 a] 2))
  have BN := Lib.hid bn
  have FA := Lib.hid fa
  have hfin := m.fin
  clear hco bn fa m c0 c1 c2 c3 c4 hi hpc
  generalize h.kept.any (over a) = q at *
  go_enter Try.func77, Try.ntmps77
  go_upto_region 5 with (go_at_call 70; refine (none_hp q4).mono ?_; rintro e w' ⟨rfl, rfl⟩)
  go_cut [15] (fun s15 wx => s15 = .bool (other h.fin a || decide (a < h.next) || q) ∧ Fr [] (w.alloc (.cells #[.int .i64 a] 2)) wx)
  case first =>
    rcases hfin with ⟨e1, rfl⟩ | ⟨fa, fb, e1, rfl, e3, e4⟩
    · have e5 : other h.fin a = false := by unfold other; rw [e1]
      have E5 := Lib.hid e5
      clear e1 e5
      by_cases hlt : a < h.next
      · have hd : decide (a < h.next) = true := by simpa using hlt
        refine wp_region_grew (by kernel_rfl) (by kernel_rfl) ?_
        repeat (go_big_quiet_step ((go_at_call 84; exact HCO.out _)))
        refine wpQuiet_nil ?_
        intro W1 f1
        go_wp2_with fail
        go_meet
        exact ⟨by rw [E5.out]; simp [*], f1⟩
      · have hd : decide (a < h.next) = false := by simpa using hlt
        refine wp_region_grew (by kernel_rfl) (by kernel_rfl) ?_
        repeat (go_big_quiet_step ((go_at_call 84; exact HCO.out _)))
        refine wpQuiet_nil ?_
        intro W1 f1
        go_wp2_with fail
        go_meet
        exact ⟨by rw [E5.out]; simp [*], f1⟩
    · have e5 : other h.fin a = !(fa == a) := by unfold other; rw [e1]
      have E5 := Lib.hid e5
      have x4 := Grew.cell (cell_al e4 (.cells #[.int .i64 a] 2))
      clear e1 e5 e4
      cases hfa : (fa == a)
      · have hfb : (fa != a) = true := by simp [bne, hfa]
        refine wp_region_grew (by kernel_rfl) (by kernel_rfl) ?_
        repeat (go_big_quiet_step ((go_at_call 84; exact HCO.out _)))
        refine wpQuiet_nil ?_
        intro W1 f1
        go_wp2_with fail
        go_meet
        exact ⟨by rw [E5.out]; simp [*], f1⟩
      · have hfb : (fa != a) = false := by simp [bne, hfa]
        by_cases hlt : a < h.next
        · have hd : decide (a < h.next) = true := by simpa using hlt
          refine wp_region_grew (by kernel_rfl) (by kernel_rfl) ?_
          repeat (go_big_quiet_step ((go_at_call 84; exact HCO.out _)))
          refine wpQuiet_nil ?_
          intro W1 f1
          go_wp2_with fail
          go_meet
          exact ⟨by rw [E5.out]; simp [*], f1⟩
        · have hd : decide (a < h.next) = false := by simpa using hlt
          refine wp_region_grew (by kernel_rfl) (by kernel_rfl) ?_
          repeat (go_big_quiet_step ((go_at_call 84; exact HCO.out _)))
          refine wpQuiet_nil ?_
          intro W1 f1
          go_wp2_with fail
          go_meet
          exact ⟨by rw [E5.out]; simp [*], f1⟩
  case rest =>
    obtain ⟨rfl, f1⟩ := hcut
    generalize wc = W1 at *
    have b1 := BN.out.fr f1 (by simp)
    have m1 := M0.out.fr (FA.out.trans f1 (by simp)) (by simp) (by simp) (by simp)
    have y0 := m1.cells.2.2.2.1
    have y1 := m1.blk.frozen 3
    have y2 := m1.blk.lt
    have B1 := Lib.hid b1
    have F1 := Lib.hid f1
    clear b1 m1 f1 x0 x1 x2 x3 hfin
    generalize (other h.fin a || decide (a < h.next) || q) = z at *
    cases z
    · go_wp2_with fail
      go_ret
      exact end_set M0.out (FA.out.trans F1.out (by simp)) (B1.out.cell 0) (Nat.le_refl _) (by have := M0.out.blk.lt; omega) (fun hk => by have := own_lt M0.out.kp.own hk; omega)
    · go_wp2_with fail
      go_ret
      exact end_same M.out (FA.out.trans F1.out (by simp)) 250
theorem end_any {S : Nat → Prop} {w : World} {g : Nat} {kv : Value} {h : Hp} (m : HP S w g kv h) (hi : Inv h) (a : Int) : Calls Try.prog 77 #[ptr g, .int .i64 a] w (EndPost S w g kv (endV h a).1 (endV h a).2) := by
  unfold endV
  by_cases h0 : a < 0 ∨ 4611686018427387904 < a
  · rw [if_pos h0]
    exact end_arg m a h0
  · rw [if_neg h0]
    have := end_go m hi a (by omega) (by omega)
    split
    · rename_i h1
      rwa [if_pos h1, if_pos h1] at this
    · rename_i h1
      rwa [if_neg h1, if_neg h1] at this
end Go.Proofs.Ytmgdbbbdhkfdmaa

namespace Go.Proofs.Ytmgdbbbdhkfdmaa
set_option maxRecDepth 100000
open Go.RowKit Go.Deep

theorem held_hp {S : Nat → Prop} {g : Nat} {kv : Value} {h : Hp} {w : World} (m : HP S w g kv h) (hi : Inv h) : Calls Try.prog 69 #[ptr g] w fun e w' => e = .returned (.int .i64 (sumV h.kept)) ∧ Fr [] w w' := by
  obtain ⟨ev, L, m⟩ := m
  obtain ⟨c0, c1, c2, c3, c4⟩ := m.cells
  have hL : L.length ≤ 64 := by have h1 := hi.len; have h2 := hi.m1; rw [m.len] at h1; omega
  have hb : ∀ k, 0 ≤ sumV ((L.map (·.1)).take k) ∧ sumV ((L.map (·.1)).take k) ≤ 4096 := fun k => by
    have h1 := sum_bd ((L.map (·.1)).take k) (fun p hp => (hi.pc p (by rw [m.kept]; exact List.mem_of_mem_take hp)).2.2.2)
    have h2 : ((L.map (·.1)).take k).length ≤ 64 := by simp; omega
    omega
  have hpc : ∀ x ∈ L, x.1.d.length ≤ 64 := fun x hx => (hi.pc x.1 (by rw [m.kept]; exact List.mem_map.2 ⟨x, hx, rfl⟩)).2.2.2
  have K := Lib.hid m.kp
  have HB := Lib.hid hb
  have HPC := Lib.hid hpc
  rw [m.kept]
  obtain ⟨KA, KC, rfl, hKn, hKc⟩ := m.kp.form
  clear hb m hpc hi
  go_enter Try.func69, Try.ntmps69
  go_wp2_with (go_at_call 70; refine (none_hp c4).mono ?_; rintro e w' ⟨rfl, rfl⟩)
  go_loopw [3, 13] (fun s3 s13 wr => ∃ k : Nat, k ≤ L.length ∧ s13 = .int .i64 k ∧ s3 = .int .i64 (sumV ((L.map (·.1)).take k)) ∧ Fr [] w wr) (fun _ s13 _ => L.length - (intOf s13).toNat)
  case atStart => exact ⟨0, by omega, rfl, rfl, Fr.refl _ _⟩
  case round =>
    obtain ⟨k, hk, rfl, rfl, fk⟩ := hrel
    obtain ⟨hb0, hb1⟩ := HB.out k
    by_cases hlt : k < L.length
    · obtain ⟨b, _, x, hv, hx, d0, d1, hby⟩ := (K.out.fr fk (by simp) (by simp)).at_ hlt
      injection hv with hv _ _
      subst hv
      obtain ⟨A, c, hxv, _, _⟩ := hby.form
      rw [hxv] at d1
      have hlb := World.block_lt_of_cell? wr _ d0
      dsimp only at hlb
      have hx64 := HPC.out x (List.mem_of_getElem? hx)
      have hs : sumV ((L.map (·.1)).take (k + 1)) = sumV ((L.map (·.1)).take k) + x.1.d.length := by
        rw [List.take_add_one]
        have : (L.map (·.1))[k]? = some x.1 := by simp [hx]
        rw [this]
        exact sum_snoc _ _
      have HS := Lib.hid hs
      clear hs hx hxv hby
      generalize sumV ((L.map (·.1)).take k) = sm at *
      go_wp2
      go_roundw
      case rel => exact ⟨k + 1, by omega, by go_num, by rw [HS.out], fk.alloc _⟩
      case measure => simp [intOf]; omega
    · obtain rfl : L.length = k := by omega
      go_wp2
      go_ret
      exact ⟨ret1_eq (by rw [List.take_of_length_le (by simp)]), fk⟩
theorem take_i64 (l : List Int) (k : Nat) (x : Int) (h : l[k]? = some x) : (l.take (k + 1)).map (Value.int .i64) = (l.take k).map (Value.int .i64) ++ [.int .i64 x] := by
  rw [List.take_add_one, h]; simp
def PRel (w : World) (L : List (Pc × Value)) (s3 s13 : Value) (wr : World) : Prop :=
  ∃ (k : Nat) (A : Option Addr) (c : Nat), k ≤ L.length ∧ s13 = .int .i64 k ∧ s3 = .slice A k c ∧ wr.ownsRow 0 2 1 (.slice A k c) k ((((L.map (·.1)).map Pc.at_).take k).map (Value.int .i64)) ∧ (∀ b, (Value.slice A k c).ownBlock = some b → w.heap.size ≤ b) ∧ Fr [] w wr
end Go.Proofs.Ytmgdbbbdhkfdmaa

namespace Go.Proofs.Ytmgdbbbdhkfdmaa
set_option maxRecDepth 100000
open Go.RowKit Go.Deep

def CopyPost (S : Nat → Prop) (w : World) (h : Hp) (e : Ending) (w' : World) : Prop :=
  ∃ kv2, e = .returned (ptr w.heap.size) ∧ HP S w' w.heap.size kv2 h ∧ Fr [] w w' ∧ (∀ b, kv2.ownBlock = some b → w.heap.size < b) ∧ w.heap.size < w'.heap.size
theorem copy_post {S : Nat → Prop} {w w1 : World} {g : Nat} {kv kv2 ev : Value} {h : Hp} {L : List (Pc × Value)} (m : HPx S w g kv ev h L) (f12 : Fr [] w w1) (b1 : Blk w1 w.heap.size 115 #[.int .i64 h.most, .int .i64 h.next, kv, ev, .bool true])
    (k2 : Kp 120 S w1 kv2 L) (hk : ∀ b, kv2.ownBlock = some b → w.heap.size < b) : CopyPost S w h (.returned (ptr w.heap.size)) (w1.setCell ⟨w.heap.size, 2, none⟩ kv2) := by
  have f2 := (Fr.refl [w.heap.size] w1).setCell (p := ⟨w.heap.size, 2, none⟩) (.inl (by simp)) kv2
  have m1 := m.fr f12 (by simp) (by simp) (by simp)
  have nS : ¬ S w.heap.size := fun hs => by have := m.pub _ hs; omega
  have hO : ∀ x ∈ [w.heap.size], ¬ S x := by intro x hx; simp at hx; subst hx; exact nS
  refine ⟨_, rfl, ⟨ev, L, ?_, ?_, m.kept, ?_, ?_, nS, ?_⟩, f12.trans f2 (by simp), hk, Nat.lt_of_lt_of_le b1.lt f2.size⟩
  · simpa using b1.set_ 2 kv2
  · exact k2.fr f2 hO (fun b hb => by simp; rintro rfl; exact own_ne k2.own b1 (by decide) hb)
  · rcases m1.fin with h1 | ⟨fa, fb, h1, h2, h3, h4⟩
    · exact .inl h1
    · exact .inr ⟨fa, fb, h1, h2, h3, (f2.cell (p := ⟨fb, 0, none⟩) (m1.pub fb h3) (fun hm => hO _ hm h3)).trans h4⟩
  · intro b hb
    exact Nat.lt_of_lt_of_le (m1.pub b hb) f2.size
  · intro b hb hs
    have h1 := hk b hb
    have h2 := m.pub b hs
    omega
theorem copy_hp {S : Nat → Prop} {w : World} {g : Nat} {kv : Value} {h : Hp} (m : HP S w g kv h) (hi : Inv h) : Calls Try.prog 47 #[ptr g] w (CopyPost S w h) := by
  obtain ⟨ev, L, m⟩ := m
  obtain ⟨c0, c1, c2, c3, c4⟩ := m.cells
  have hg := m.blk.lt
  have hL : L.length ≤ 64 := by have h1 := hi.len; have h2 := hi.m1; rw [m.len] at h1; omega
  have fa : Fr [] w (w.alloc (.cells #[.int .i64 h.most, .int .i64 h.next, kv, ev, .bool true] 115)) := (Fr.refl _ _).alloc _
  have bn := Blk.new w 115 #[.int .i64 h.most, .int .i64 h.next, kv, ev, .bool true]
  have q2 := cell_al c2 (.cells #[.int .i64 h.most, .int .i64 h.next, kv, ev, .bool true] 115)
  have hcl := cloneP_any _ (m.kp.fr fa (by simp) (by simp)) (by omega)
  have HCL := Lib.hid hcl
  have M := Lib.hid m
  have FA := Lib.hid fa
  have BN := Lib.hid bn
  have hev : (∃ b, ev = ptr b) ∨ ev = .pointer none := by
    rcases m.fin with ⟨_, rfl⟩ | ⟨_, b, _, rfl, _⟩
    · exact .inr rfl
    · exact .inl ⟨b, rfl⟩
  obtain ⟨KA, KC, rfl, _, _⟩ := m.kp.form
  clear hcl m fa bn hi
  rcases hev with ⟨eb, rfl⟩ | rfl
  all_goals
    go_enter Try.func47, Try.ntmps47
    go_wp2_with (go_at_call 70; refine (none_hp c4).mono ?_; rintro e w' ⟨rfl, rfl⟩)
    refine HCL.out.mono ?_
    rintro e w1 ⟨A2, c2', rfl, k2, f1, hk⟩
    have b1 := BN.out.fr f1 (by simp)
    have y0 : w1.cell? ⟨w.heap.size, 2, none⟩ = some (.slice KA L.length KC) := by simpa using b1.cell 2
    have y1 := b1.frozen 2
    have y2 := b1.lt
    have K2 := Lib.hid k2
    have F1 := Lib.hid f1
    have HK := Lib.hid hk
    have B1 := Lib.hid b1
    clear k2 f1 hk b1
    go_wp2_with fail
    go_ret
    exact copy_post M.out (FA.out.trans F1.out (by simp)) B1.out K2.out (fun b hb => by have h1 := HK.out b hb; simp at h1; omega)

/-! ### Same -/
theorem bytes_eq (S : Nat → Prop) (w : World) (v u : Value) (d : List Int) (h1 : Byt S w v d) (h2 : Byt S w u d) : Calls Try.prog 51 #[v, u] w fun e w' => e = .returned (.bool true) ∧ w = w' := by
  have q1 := h1.string (P := Try.prog) 25 5 Try.underlying25 Try.underlying5 9 Try.underlying9
  have q2 := h2.string (P := Try.prog) 25 5 Try.underlying25 Try.underlying5 9 Try.underlying9
  obtain ⟨A, c, rfl, _, _⟩ := h1.form
  obtain ⟨A', c', rfl, _, _⟩ := h2.form
  clear h1 h2
  generalize strOfNums d = s at *
  go_enter Try.func51, Try.ntmps51
  go_wp2
  go_ret
  exact ⟨rfl, rfl⟩
theorem same1_eq (S : Nat → Prop) (w : World) (a : Int) (v u : Value) (d : List Int) (h1 : Byt S w v d) (h2 : Byt S w u d) : Calls Try.prog 72 #[agp a v, agp a u] w fun e w' => e = .returned (.bool true) ∧ Fr [] w w' := by
  have hq : ∀ W, Fr [] w W → Calls Try.prog 51 #[v, u] W fun e w' => e = .returned (.bool true) ∧ W = w' := fun W f => bytes_eq S W v u d (h1.fr f (by simp)) (h2.fr f (by simp))
  have HQ := Lib.hid hq
  obtain ⟨A, c, rfl, _, _⟩ := h1.form
  obtain ⟨A', c', rfl, _, _⟩ := h2.form
  clear h1 h2 hq
  go_enter Try.func72, Try.ntmps72
  go_wp2_with (go_at_call 51; refine (HQ.out _ (((Fr.refl _ _).alloc _).alloc _)).mono ?_; rintro e w' ⟨rfl, rfl⟩)
  go_ret
  exact ⟨rfl, ((Fr.refl _ _).alloc _).alloc _⟩
theorem equal_eq (S : Nat → Prop) (w : World) (kv kv' : Value) (L L' : List (Pc × Value)) (h1 : Kp 120 S w kv L) (h2 : Kp 120 S w kv' L') (he : L.map (·.1) = L'.map (·.1)) (hl : L.length ≤ 64) :
    Calls Try.prog 73 #[kv, kv', .func (.func 72) #[] #[]] w fun e w' => e = .returned (.bool true) ∧ Fr [] w w' := by
  have hlen : L'.length = L.length := by have := congrArg List.length he; simpa using this.symm
  have K1 := Lib.hid h1
  have K2 := Lib.hid h2
  have HE := Lib.hid he
  have HL := Lib.hid hlen
  obtain ⟨KA, KC, rfl, hKn, hKc⟩ := h1.form
  obtain ⟨KA', KC', rfl, hKn', hKc'⟩ := h2.form
  clear h1 h2 he
  rw [hlen] at hKn' ⊢
  clear hlen
  go_enter Try.func73, Try.ntmps73
  go_wp2
  go_loopw [17] (fun s17 wr => ∃ k : Nat, k ≤ L.length ∧ s17 = .int .i64 k ∧ Fr [] w wr) (fun s17 _ => L.length - (intOf s17).toNat)
  case atStart => exact ⟨0, by omega, rfl, Fr.refl _ _⟩
  case round =>
    obtain ⟨k, hk, rfl, fk⟩ := hrel
    by_cases hlt : k < L.length
    · obtain ⟨b, _, x, hv, hx, d0, d1, hby⟩ := (K1.out.fr fk (by simp) (by simp)).at_ hlt
      injection hv with hv _ hc
      subst hv hc
      obtain ⟨b', _, y, hv, hy, d2, d3, hby'⟩ := (K2.out.fr fk (by simp) (by simp)).at_ (k := k) (by rw [HL.out]; exact hlt)
      injection hv with hv _ hc
      subst hv hc
      have hxy : x.1 = y.1 := by
        have h3 : (L.map (·.1))[k]? = some x.1 := by simp [hx]
        have h4 : (L'.map (·.1))[k]? = some y.1 := by simp [hy]
        rw [HE.out, h4] at h3
        injection h3 with h3
        exact h3.symm
      rw [← hxy] at d2 hby'
      obtain ⟨A, c, hxv, _, _⟩ := hby.form
      obtain ⟨A', c', hyv, _, _⟩ := hby'.form
      rw [hxv] at d1 hby
      rw [hyv] at d3 hby'
      have hl1 := World.block_lt_of_cell? wr _ d0
      have hl2 := World.block_lt_of_cell? wr _ d2
      dsimp only at hl1 hl2
      have f2 : Fr [] wr ((wr.alloc (bxp x.1.at_ (.slice A x.1.d.length c))).alloc (bxp x.1.at_ (.slice A' x.1.d.length c'))) := ((Fr.refl _ _).alloc _).alloc _
      have hcall := same1_eq S _ x.1.at_ (.slice A x.1.d.length c) (.slice A' x.1.d.length c') x.1.d (hby.fr f2 (by simp)) (hby'.fr f2 (by simp))
      have HC := Lib.hid hcall
      have F2 := Lib.hid f2
      have Fk := Lib.hid fk
      clear hcall f2 fk hby hby' hx hy hxy hxv hyv
      go_wp2_with fail
      refine HC.out.mono ?_
      rintro e w1 ⟨rfl, f1⟩
      go_wp2_with fail
      go_roundw
      case rel => exact ⟨k + 1, by omega, by go_num, (Fk.out.trans F2.out (by simp)).trans f1 (by simp)⟩
      case measure => simp [intOf]; omega
    · obtain rfl : L.length = k := by omega
      go_wp2_with fail
      go_ret
      exact ⟨rfl, fk⟩
end Go.Proofs.Ytmgdbbbdhkfdmaa

namespace Go.Proofs.Ytmgdbbbdhkfdmaa
set_option maxRecDepth 100000
open Go.RowKit Go.Deep

set_option maxRecDepth 100000 in
set_option maxHeartbeats 2000000 in
theorem same_hp {S : Nat → Prop} {w : World} {g g' : Nat} {kv kv' : Value} {h : Hp} (m : HP S w g kv h) (m' : HP S w g' kv' h) (hi : Inv h) : Calls Try.prog 50 #[ptr g, ptr g'] w fun e w' => e = .returned (.bool true) ∧ Fr [] w w' := by
  obtain ⟨ev, L, m⟩ := m
  obtain ⟨ev', L', m'⟩ := m'
  obtain ⟨c0, c1, c2, c3, c4⟩ := m.cells
  obtain ⟨d0, d1, d2, d3, d4⟩ := m'.cells
  have hL : L.length ≤ 64 := by have h1 := hi.len; have h2 := hi.m1; rw [m.len] at h1; omega
  have heq : ∀ W, Fr [] w W → Calls Try.prog 73 #[kv, kv', .func (.func 72) #[] #[]] W fun e w' => e = .returned (.bool true) ∧ Fr [] W w' := fun W f =>
    equal_eq S W kv kv' L L' (m.kp.fr f (by simp) (by simp)) (m'.kp.fr f (by simp) (by simp)) (by rw [← m.kept, m'.kept]) hL
  have HEQ := Lib.hid heq
  have hfin : (ev = .pointer none ∧ ev' = .pointer none) ∨ ∃ a b b', ev = ptr b ∧ ev' = ptr b' ∧ w.cell? ⟨b, 0, none⟩ = some (.int .i64 a) ∧ w.cell? ⟨b', 0, none⟩ = some (.int .i64 a) := by
    rcases m.fin with ⟨h1, h2⟩ | ⟨a, b, h1, h2, h3, h4⟩
    · rcases m'.fin with ⟨h5, h6⟩ | ⟨a', b', h5, h6, h7, h8⟩
      · exact .inl ⟨h2, h6⟩
      · rw [h1] at h5; cases h5
    · rcases m'.fin with ⟨h5, h6⟩ | ⟨a', b', h5, h6, h7, h8⟩
      · rw [h1] at h5; cases h5
      · rw [h1] at h5
        injection h5 with h5
        subst h5
        exact .inr ⟨a, b, b', h2, h6, h4, h8⟩
  clear m m' hi hL heq
  go_enter Try.func50, Try.ntmps50
  go_upto_region 3 with (first | (go_at_call 70; refine (none_hp ?_).mono ?_; (first | exact c4 | exact d4); rintro e w' ⟨rfl, rfl⟩))
  go_cut [5] (fun s5 wx => s5 = .bool true ∧ Fr [] w wx)
  case first =>
    have x0 := Grew.cell c3
    have x1 := Grew.cell d3
    rcases hfin with ⟨rfl, rfl⟩ | ⟨a, b, b', rfl, rfl, e1, e2⟩
    · refine wp_region_grew (by kernel_rfl) (by kernel_rfl) ?_
      repeat (go_big_quiet_step (fail))
      refine wpQuiet_nil ?_
      intro W1 f1
      go_wp2_with fail
      go_meet
      exact ⟨rfl, f1⟩
    · have x2 := Grew.cell e1
      have x3 := Grew.cell e2
      refine wp_region_grew (by kernel_rfl) (by kernel_rfl) ?_
      repeat (go_big_quiet_step (fail))
      refine wpQuiet_nil ?_
      intro W1 f1
      go_wp2_with fail
      go_meet
      exact ⟨rfl, f1⟩
  case rest =>
    obtain ⟨rfl, f1⟩ := hcut
    generalize wc = W1 at *
    have x0 := Grew.cell (fr_cell f1 c0)
    have x1 := Grew.cell (fr_cell f1 c1)
    have x2 := Grew.cell (fr_cell f1 c2)
    have y0 := Grew.cell (fr_cell f1 d0)
    have y1 := Grew.cell (fr_cell f1 d1)
    have y2 := Grew.cell (fr_cell f1 d2)
    have hq : ∀ p : Grew W1, Calls Try.prog 73 #[kv, kv', .func (.func 72) #[] #[]] p.W fun e w'' => e = .returned (.bool true) ∧ ∃ q : Grew W1, w'' = q.W := fun p => grew_call (HEQ.out _ (f1.trans p.fr (by simp)))
    have HQ := Lib.hid hq
    have F1 := Lib.hid f1
    clear hq f1 c0 c1 c2 c3 c4 d0 d1 d2 d3 d4 hfin
    go_wp2_with fail
    refine wp_region_grew (by kernel_rfl) (by kernel_rfl) ?_
    repeat (go_big_quiet_step ((go_at_call 73; exact HQ.out _)))
    refine wpQuiet_nil ?_
    intro W2 f2
    go_wp2_with fail
    go_ret
    exact ⟨rfl, F1.out.trans f2 (by simp)⟩

/-! ### Heaps that are not there -/
theorem same_nil_z {w : World} {g : Nat} (m : Hz w g) : Calls Try.prog 50 #[.pointer none, ptr g] w fun e w' => e = .returned (.bool true) ∧ w = w' := by
  go_enter Try.func50, Try.ntmps50
  go_wp2_with fail
  refine (none_nil _).mono ?_
  rintro e w' ⟨rfl, rfl⟩
  go_wp2_with fail
  refine (none_nil _).mono ?_
  rintro e w' ⟨rfl, rfl⟩
  go_wp2_with fail
  refine (none_z _ _ m).mono ?_
  rintro e w' ⟨rfl, rfl⟩
  go_wp2_with fail
  go_ret
  exact ⟨rfl, rfl⟩
theorem same_nil_hp {w : World} {g : Nat} (c4 : w.cell? ⟨g, 4, none⟩ = some (.bool true)) : Calls Try.prog 50 #[.pointer none, ptr g] w fun e w' => e = .returned (.bool false) ∧ w = w' := by
  go_enter Try.func50, Try.ntmps50
  go_wp2_with fail
  refine (none_nil _).mono ?_
  rintro e w' ⟨rfl, rfl⟩
  go_wp2_with fail
  refine (none_nil _).mono ?_
  rintro e w' ⟨rfl, rfl⟩
  go_wp2_with fail
  refine (none_hp c4).mono ?_
  rintro e w' ⟨rfl, rfl⟩
  go_wp2_with fail
  go_ret
  exact ⟨rfl, rfl⟩
theorem same_hp_z {w : World} {g g' : Nat} (c4 : w.cell? ⟨g, 4, none⟩ = some (.bool true)) (m : Hz w g') : Calls Try.prog 50 #[ptr g, ptr g'] w fun e w' => e = .returned (.bool false) ∧ w = w' := by
  go_enter Try.func50, Try.ntmps50
  go_wp2_with fail
  refine (none_hp c4).mono ?_
  rintro e w' ⟨rfl, rfl⟩
  go_wp2_with fail
  refine (none_z _ _ m).mono ?_
  rintro e w' ⟨rfl, rfl⟩
  go_wp2_with fail
  refine (none_hp c4).mono ?_
  rintro e w' ⟨rfl, rfl⟩
  go_wp2_with fail
  go_ret
  exact ⟨rfl, rfl⟩
theorem end_z {w : World} {g : Nat} (m : Hz w g) (a : Int) : Calls Try.prog 77 #[ptr g, .int .i64 a] w fun e w' => e = .returned (.int .i64 1) ∧ Fr [] w w' := by
  have hz := Blk.alloc m (.cells #[.int .i64 a] 2)
  have HZ := Lib.hid hz
  clear hz
  go_enter Try.func77, Try.ntmps77
  go_wp2_with (go_at_call 70; refine (none_z _ _ HZ.out).mono ?_; rintro e w' ⟨rfl, rfl⟩)
  go_ret
  exact ⟨rfl, (Fr.refl _ _).alloc _⟩
theorem done_nil (w : World) : Calls Try.prog 79 #[.pointer none] w fun e w' => e = .returned (.bool false) ∧ Fr [] w w' := by
  go_enter Try.func79, Try.ntmps79
  go_wp2_with fail
  go_quiet ((go_at_call 70; exact quiet_left (none_nil _)))
  go_wp2
  go_ret
  exact ⟨rfl, (Fr.refl _ _).drewN _⟩
theorem done_z {w : World} {g : Nat} (m : Hz w g) : Calls Try.prog 79 #[ptr g] w fun e w' => e = .returned (.bool false) ∧ Fr [] w w' := by
  have hq := fun n => none_z g (w.drewN n) (Blk.drewN m n)
  have HQ := Lib.hid hq
  clear hq
  go_enter Try.func79, Try.ntmps79
  go_wp2_with fail
  go_quiet ((go_at_call 70; exact quiet_left (HQ.out _)))
  go_wp2
  go_ret
  exact ⟨rfl, (Fr.refl _ _).drewN _⟩
theorem next_nil (w : World) : Calls Try.prog 42 #[.pointer none] w fun e w' => e = .returned (.int .i64 0) ∧ w = w' := by
  go_enter Try.func42, Try.ntmps42
  go_wp2_with (go_at_call 70; refine (none_nil _).mono ?_; rintro e w' ⟨rfl, rfl⟩)
  go_ret
  exact ⟨rfl, rfl⟩
theorem held_z {w : World} {g : Nat} (m : Hz w g) : Calls Try.prog 69 #[ptr g] w fun e w' => e = .returned (.int .i64 0) ∧ w = w' := by
  go_enter Try.func69, Try.ntmps69
  go_wp2_with (go_at_call 70; refine (none_z _ _ m).mono ?_; rintro e w' ⟨rfl, rfl⟩)
  go_ret
  exact ⟨rfl, rfl⟩
theorem copy_z {w : World} {g : Nat} (m : Hz w g) : Calls Try.prog 47 #[ptr g] w fun e w' => e = .returned (.pointer none) ∧ w = w' := by
  go_enter Try.func47, Try.ntmps47
  go_wp2_with (go_at_call 70; refine (none_z _ _ m).mono ?_; rintro e w' ⟨rfl, rfl⟩)
  go_ret
  exact ⟨rfl, rfl⟩
end Go.Proofs.Ytmgdbbbdhkfdmaa
