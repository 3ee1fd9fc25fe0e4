import Derived.Test.YtmgdbbbdhkfdmaaZ9
import Derived.Deep.DeepCutAuto
set_option linter.unusedSimpArgs false
set_option linter.unusedVariables false
namespace Go.Proofs.Ytmgdbbbdhkfdmaa
set_option maxRecDepth 100000
open Go.RowKit Go.Deep

/-! ### Ends that are not there -/
/-- A zero end. -/
abbrev zeroA : Array Value := #[.int .i64 0, .bool false, .int .u32 0, .int .i64 0, .int .i64 0, .int .i64 0, .int .i64 0, .int .i64 0, .int .i64 0, .int .i64 0, .int .i64 0, .bool false, .bool false,
  .int .u32 0, .slice none 0 0, .slice none 0 0, .pointer none, .pointer none, .pointer none, .bool false, .bool false, .int .i64 0, .int .i64 0, .int .i64 0, .int .i64 0]
def Sz (w : World) (g : Nat) : Prop := Blk w g 39 zeroA
theorem Sz.c16 {w : World} {g : Nat} (m : Sz w g) : w.cell? ⟨g, 16, none⟩ = some (.pointer none) := by simpa using Blk.cell m 16
theorem write_z {w : World} {g : Nat} (m : Sz w g) (A : Option Addr) (n c : Nat) : Calls Try.prog 7 #[ptr g, .slice A n c] w fun e w' => e = .returned (.tuple #[.slice none 0 0, .int .i64 1]) ∧ w = w' := by
  have c16 := m.c16
  go_enter Try.func7, Try.ntmps7
  go_wp2_with fail
  refine (snone_z g w c16).mono ?_
  rintro e w' ⟨rfl, rfl⟩
  go_wp2_with fail
  go_ret2
  exact ⟨rfl, rfl⟩
theorem close_nil (w : World) : Calls Try.prog 8 #[.pointer none] w fun e w' => e = .returned (.tuple #[.slice none 0 0, .int .i64 1]) ∧ w = w' := by
  go_enter Try.func8, Try.ntmps8
  go_wp2_with fail
  refine (snone_nil w).mono ?_
  rintro e w' ⟨rfl, rfl⟩
  go_wp2_with fail
  go_ret2
  exact ⟨rfl, rfl⟩
theorem tick_z {w : World} {g : Nat} (m : Sz w g) : Calls Try.prog 9 #[ptr g] w fun e w' => e = .returned (.tuple #[.slice none 0 0, .int .i64 1]) ∧ w = w' := by
  have c16 := m.c16
  go_enter Try.func9, Try.ntmps9
  go_wp2_with fail
  refine (snone_z g w c16).mono ?_
  rintro e w' ⟨rfl, rfl⟩
  go_wp2_with fail
  go_ret2
  exact ⟨rfl, rfl⟩
theorem reset_nil (w : World) : Calls Try.prog 10 #[.pointer none] w fun e w' => e = .returned (.tuple #[.slice none 0 0, .int .i64 1]) ∧ w = w' := by
  go_enter Try.func10, Try.ntmps10
  go_wp2_with fail
  refine (snone_nil w).mono ?_
  rintro e w' ⟨rfl, rfl⟩
  go_wp2_with fail
  go_ret2
  exact ⟨rfl, rfl⟩
theorem read_nil (w : World) : Calls Try.prog 12 #[.pointer none] w fun e w' => e = .returned (.tuple #[.slice none 0 0, .slice none 0 0]) ∧ w = w' := by
  go_enter Try.func12, Try.ntmps12
  go_wp2_with fail
  refine (snone_nil w).mono ?_
  rintro e w' ⟨rfl, rfl⟩
  go_wp2_with fail
  go_ret2
  exact ⟨rfl, rfl⟩
theorem scopy_nil (w : World) : Calls Try.prog 14 #[.pointer none] w fun e w' => e = .returned (.pointer none) ∧ w = w' := by
  go_enter Try.func14, Try.ntmps14
  go_wp2_with fail
  refine (snone_nil w).mono ?_
  rintro e w' ⟨rfl, rfl⟩
  go_wp2_with fail
  go_ret
  exact ⟨rfl, rfl⟩
theorem ssame_nil_z {w : World} {g : Nat} (m : Sz w g) : Calls Try.prog 15 #[.pointer none, ptr g] w fun e w' => e = .returned (.bool true) ∧ w = w' := by
  have c16 := m.c16
  go_enter Try.func15, Try.ntmps15
  go_wp2_with fail
  refine (snone_nil w).mono ?_
  rintro e w' ⟨rfl, rfl⟩
  go_wp2_with fail
  refine (snone_nil w).mono ?_
  rintro e w' ⟨rfl, rfl⟩
  go_wp2_with fail
  refine (snone_z g w c16).mono ?_
  rintro e w' ⟨rfl, rfl⟩
  go_wp2_with fail
  go_ret
  exact ⟨rfl, rfl⟩
theorem ssame_nil_si {w : World} {g gw : Nat} (c16 : w.cell? ⟨g, 16, none⟩ = some (ptr gw)) : Calls Try.prog 15 #[.pointer none, ptr g] w fun e w' => e = .returned (.bool false) ∧ w = w' := by
  go_enter Try.func15, Try.ntmps15
  go_wp2_with fail
  refine (snone_nil w).mono ?_
  rintro e w' ⟨rfl, rfl⟩
  go_wp2_with fail
  refine (snone_nil w).mono ?_
  rintro e w' ⟨rfl, rfl⟩
  go_wp2_with fail
  refine (snone_si g gw w c16).mono ?_
  rintro e w' ⟨rfl, rfl⟩
  go_wp2_with fail
  go_ret
  exact ⟨rfl, rfl⟩
theorem ssame_si_z {w : World} {g g' gw : Nat} (c16 : w.cell? ⟨g, 16, none⟩ = some (ptr gw)) (m : Sz w g') : Calls Try.prog 15 #[ptr g, ptr g'] w fun e w' => e = .returned (.bool false) ∧ w = w' := by
  have d16 := m.c16
  go_enter Try.func15, Try.ntmps15
  go_wp2_with fail
  refine (snone_si g gw w c16).mono ?_
  rintro e w' ⟨rfl, rfl⟩
  go_wp2_with fail
  refine (snone_z g' w d16).mono ?_
  rintro e w' ⟨rfl, rfl⟩
  go_wp2_with fail
  refine (snone_si g gw w c16).mono ?_
  rintro e w' ⟨rfl, rfl⟩
  go_wp2_with fail
  go_ret
  exact ⟨rfl, rfl⟩
end Go.Proofs.Ytmgdbbbdhkfdmaa

namespace Go.Proofs.Ytmgdbbbdhkfdmaa
set_option maxRecDepth 100000
open Go.RowKit Go.Deep

theorem come_nil (w : World) (fl sq ak wi : Int) (dv : Value) : Calls Try.prog 6 #[.pointer none, .agg #[.int .i64 fl, .int .u32 sq, .int .u32 ak, .int .u16 wi, dv]] w fun e w' => e = .returned (.tuple #[.slice none 0 0, .int .i64 1]) ∧ Fr [] w w' := by
  go_enter Try.func6, Try.ntmps6
  go_wp2_with fail
  refine wp_scope_fwd 0 rfl ?_
  go_wp2_with fail
  refine (snone_nil _).mono ?_
  rintro e w' ⟨rfl, rfl⟩
  go_wp2_with fail
  apply wp_goto
  refine fwd_goto _ _ ?_
  go_wp2
  rw [Exit.noGoto_ret]
  go_ret2
  exact ⟨rfl, ((Fr.refl _ _).alloc _).alloc _⟩
end Go.Proofs.Ytmgdbbbdhkfdmaa

namespace Go.Proofs.Ytmgdbbbdhkfdmaa
set_option maxRecDepth 100000
open Go.RowKit Go.Deep

abbrev formZ : Array Value := #[.int .i64 0, .bool false, .int .u32 0, .int .i64 0, .int .i64 0, .int .i64 0, .int .i64 0, .int .i64 0, .int .i64 0, .int .i64 0, .int .i64 0, .bool false, .bool false]
theorem formZ_cell (w w' : World) (b j : Nat) (v : Value) (B : Blk w b 34 formZ) (h : formZ[j]? = some v) : w.cell? ⟨b, j, none⟩ = some v := (B.cell j).trans h
theorem state_nil_z {w : World} {g : Nat} (m : Sz w g) : Calls Try.prog 13 #[ptr g] w fun e w' => e = .returned (.agg formZ) ∧ Fr [] w w' := by
  have c16 := m.c16
  have hlt := Blk.lt m
  have c16' : (w.alloc (.cells formZ 34)).cell? ⟨g, 16, none⟩ = some (.pointer none) := fr_cell ((Fr.refl [] w).alloc _) c16
  have f0 : Fr [] w (w.alloc (.cells formZ 34)) := (Fr.refl [] w).alloc _
  have b0 : Blk (w.alloc (.cells formZ 34)) w.heap.size 34 formZ := Blk.new w _ _
  have HS := Lib.hid (snone_z g (w.alloc (.cells formZ 34)) c16')
  clear m c16 c16'
  go_enter Try.func13, Try.ntmps13
  go_wp2_with fail
  refine HS.out.mono ?_
  rintro e w' ⟨rfl, rfl⟩
  generalize w.alloc (.cells formZ 34) = w0 at *
  have F0 := Lib.hid f0
  have B0 := Lib.hid b0
  clear f0 HS
  go_wp2_with ((with_reducible refine gate_store 34 (.tmp 2) ?_); refine wpList_store_blk rfl 34 (.tmp 2) (.tmp 6) rfl w.heap.size 34 formZ formZ rfl rfl B0.out rfl (by kernel_rfl) (by simp [Value.oneCell']) ?_; intro w3 B3 F3)
  have r : ∀ j v, formZ[j]? = some v → w3.cell? ⟨w.heap.size, j, none⟩ = some v := fun j v h => (B3.cell j).trans h
  have r0 := r 0 _ rfl
  have r1 := r 1 _ rfl
  have r2 := r 2 _ rfl
  have r3 := r 3 _ rfl
  have r4 := r 4 _ rfl
  have r5 := r 5 _ rfl
  have r6 := r 6 _ rfl
  have r7 := r 7 _ rfl
  have r8 := r 8 _ rfl
  have r9 := r 9 _ rfl
  have r10 := r 10 _ rfl
  have r11 := r 11 _ rfl
  have r12 := r 12 _ rfl
  refine bodyPost_ret (v := .agg formZ) (by simp [results, Try.results13, go_sem, r0, r1, r2, r3, r4, r5, r6, r7, r8, r9, r10, r11, r12]) rfl ?_
  exact ⟨rfl, F0.out.trans F3 (by intro y hy; simp at hy; subst hy; exact .inr (Nat.le_refl _))⟩
end Go.Proofs.Ytmgdbbbdhkfdmaa

namespace Go.Proofs.Ytmgdbbbdhkfdmaa
set_option maxRecDepth 100000
open Go.RowKit Go.Deep

abbrev arN (isn : Int) (a b c : Value) (n : Int) : Array Value := #[.int .i64 n, .bool false, .int .u32 0, .int .i64 0, .int .i64 0, .int .i64 0, .int .i64 0, .int .i64 0, .int .i64 0, .int .i64 0, .int .i64 0, .bool false, .bool false, .int .u32 isn, .slice none 0 0, .slice none 0 0, a, b, c, .bool false, .bool false, .int .i64 0, .int .i64 0, .int .i64 0, .int .i64 0]
def NewPost (S : Nat → Prop) (w : World) (r : St × List Prt) (e : Ending) (w' : World) : Prop :=
  ∃ S' H v L, e = .returned (.tuple #[ptr H.g, v]) ∧ L.map (·.1) = r.2 ∧ Ext w S S' ∧ SI S' w' H r.1 ∧ Pr S' w' v L ∧ (∀ b ∈ ob v, w.heap.size ≤ b ∧ ¬ S' b) ∧ Fr [] w w' ∧ (∀ b ∈ H.own, w.heap.size ≤ b)
set_option maxHeartbeats 4000000 in
theorem new_si (S : Nat → Prop) (isn : Int) (calls : Bool) (w : World) (hp : ∀ b, S b → b < w.heap.size) : Calls Try.prog 11 #[.int .u32 isn, .bool calls] w (NewPost S w (newSV isn calls)) := by
  have HPu := Lib.hid hp
  clear hp
  go_enter Try.func11, Try.ntmps11
  go_wp2_with fail
  refine (Win.new_win w).mono ?_
  rintro e w1 ⟨rfl, f1, m1, z1⟩
  go_upto_region 2 with fail
  have hgw : w.heap.size < w1.heap.size := z1
  have f2 : Fr [] w1 (w1.alloc (.cells (arN isn (ptr w.heap.size) (.pointer none) (.pointer none) 0) 39)) := (Fr.refl [] w1).alloc _
  have b2 : Blk (w1.alloc (.cells (arN isn (ptr w.heap.size) (.pointer none) (.pointer none) 0) 39)) w1.heap.size 39 (arN isn (ptr w.heap.size) (.pointer none) (.pointer none) 0) := Blk.new w1 _ _
  have hz2 : w1.heap.size < (w1.alloc (.cells (arN isn (ptr w.heap.size) (.pointer none) (.pointer none) 0) 39)).heap.size := by simp
  have W2 := Lib.hid (Blk.fr m1 f2 (by simp))
  have F2 := Lib.hid (f1.trans f2 (by simp))
  have B2 := Lib.hid b2
  clear m1 f1 f2 b2 z1
  generalize w1.alloc (.cells (arN isn (ptr w.heap.size) (.pointer none) (.pointer none) 0) 39) = w2 at *
  generalize hg : w1.heap.size = g at *
  clear hg
  go_wp2_with fail
  refine (Rto.new_clk 2 1 32 8 w2 (by omega) (by omega) (by omega) (by omega) (by omega) (by omega)).mono ?_
  rintro e w3 ⟨gc, rfl, hgc, f3, C3, _⟩
  have b3 := B2.out.fr f3 (by simp)
  have z17 : w3.frozen? ⟨g, 17, none⟩ = false := b3.frozen 17
  have d17 : w3.cell? ⟨g, 17, none⟩ = some (.pointer none) := by simpa using b3.cell 17
  have hl3 := b3.lt
  have B3 := Lib.hid b3
  have CC3 := Lib.hid C3
  have F3 := Lib.hid f3
  clear b3 C3 f3
  go_upto_region 3 with fail
  have f4 : Fr [g] w3 (w3.setCell ⟨g, 17, none⟩ (ptr gc)) := (Fr.refl [g] w3).setCell (p := ⟨g, 17, none⟩) (.inl (by simp)) _
  have b4 : Blk (w3.setCell ⟨g, 17, none⟩ (ptr gc)) g 39 (arN isn (ptr w.heap.size) (ptr gc) (.pointer none) 0) := by simpa using B3.out.set_ 17 (ptr gc)
  generalize w3.setCell ⟨g, 17, none⟩ (ptr gc) = w4 at *
  have F4 := Lib.hid f4
  have B4 := Lib.hid b4
  clear f4 b4 z17 d17 hl3
  have F24 : Hid (Fr [g] w2 w4) := Lib.hid ((F3.out.mono (by simp)).trans F4.out (fun y hy => .inl hy))
  have FW4 : Hid (Fr [] w w4) := Lib.hid (F2.out.trans F24.out (fun y hy => .inr (by simp at hy; omega)))
  have W4 : Hid (Win.Win w4 w.heap.size ⟨0, 0, 0, 0⟩ true) := Lib.hid (Blk.fr W2.out F24.out (by simp; omega))
  have C4 : Hid (Rto.Clk w4 gc (Rto.newV 2 1 32 8)) := Lib.hid (Blk.fr CC3.out F4.out (by simp; omega))
  go_wp2_with fail
  refine (new_hp S 8 w4 (by omega) (by omega) (fun b hb => by have := HPu.out b hb; have := FW4.out.size; omega)).mono ?_
  rintro e w5 ⟨rfl, f5, h5, z5⟩
  have b5 := B4.out.fr f5 (by simp)
  have z18 : w5.frozen? ⟨g, 18, none⟩ = false := b5.frozen 18
  have d18 : w5.cell? ⟨g, 18, none⟩ = some (.pointer none) := by simpa using b5.cell 18
  have z0 : w5.frozen? ⟨g, 0, none⟩ = false := b5.frozen 0
  have d0 : w5.cell? ⟨g, 0, none⟩ = some (.int .i64 0) := by simpa using b5.cell 0
  have hl5 := b5.lt
  have hg4 := B4.out.lt
  have B5 := Lib.hid b5
  have H5 := Lib.hid h5
  have F5 := Lib.hid f5
  clear b5 h5 f5
  generalize hgh : w4.heap.size = gh at *
  go_upto_region 5 with fail
  have f6 : Fr [g] w5 ((w5.setCell ⟨g, 18, none⟩ (ptr gh)).setCell ⟨g, 0, none⟩ (.int .i64 1)) := ((Fr.refl [g] w5).setCell (p := ⟨g, 18, none⟩) (.inl (by simp)) _).setCell (p := ⟨g, 0, none⟩) (.inl (by simp)) _
  have b6 : Blk ((w5.setCell ⟨g, 18, none⟩ (ptr gh)).setCell ⟨g, 0, none⟩ (.int .i64 1)) g 39 (arN isn (ptr w.heap.size) (ptr gc) (ptr gh) 1) := by simpa using (B5.out.set_ 18 (ptr gh)).set_ 0 (.int .i64 1)
  generalize (w5.setCell ⟨g, 18, none⟩ (ptr gh)).setCell ⟨g, 0, none⟩ (.int .i64 1) = w6 at *
  have hwg : w.heap.size < g := by omega
  have hnS : ∀ y, w.heap.size ≤ y → ¬ S y := fun y hy hs => by have := HPu.out y hs; omega
  have F56 : Fr [g] w4 w6 := (F5.out.mono (by simp)).trans f6 (fun y hy => .inl hy)
  have m6 : SI S w6 ⟨g, w.heap.size, gc, gh, .slice none 0 0, .slice none 0 0, .slice none 0 0⟩ (newS isn 1) := by
    refine ⟨b6, Blk.fr W4.out F56 (by simp; omega), Blk.fr C4.out F56 (by simp; omega), H5.out.ext' f6 (Ext.refl w5 S) (fun y hy => by simp at hy; subst hy; exact hnS _ (by omega)) (fun y hy => by simp [ob, Value.ownBlock] at hy; simp; omega) (fun b hb => by have := HPu.out b hb; have := FW4.out.size; have := F56.size; omega), World.ownsRow_nil _ 0 5 1, World.ownsRow_nil _ 0 5 1, fun y hy => ?_, by simp [ob, Value.ownBlock]⟩
    simp [ob, Value.ownBlock] at hy
    rcases hy with rfl | rfl | rfl
    · exact hnS _ (by omega)
    · exact hnS _ (by omega)
    · exact hnS _ (by omega)
  have FW6 : Fr [] w w6 := FW4.out.trans F56 (fun y hy => .inr (by simp at hy; omega))
  have HOWN : Hid (∀ b ∈ (⟨g, w.heap.size, gc, gh, .slice none 0 0, .slice none 0 0, .slice none 0 0⟩ : Hd).own, w.heap.size ≤ b) := Lib.hid (fun b hb => by
    have := FW4.out.size
    simp [Hd.own, ob, Value.ownBlock] at hb
    rcases hb with rfl | rfl | rfl | rfl <;> omega)
  have M6 := Lib.hid m6
  have FF6 := Lib.hid FW6
  clear z18 d18 z0 d0 m6 FW6 F56 f6 b6 B5 H5 F5 W4 C4 F24 F4 B4 F3 B3 CC3 W2 F2 B2
  cases calls
  · go_wp2_with fail
    go_ret2
    have hv : newSV isn false = (newS isn 1, []) := rfl
    rw [hv]
    exact ⟨S, _, _, [], rfl, rfl, Ext.refl w S, M6.out, Pr.nil, by simp [ob, Value.ownBlock], FF6.out, HOWN.out⟩
  · have z0 : w6.frozen? ⟨g, 0, none⟩ = false := M6.out.blk.frozen 0
    have d0 : w6.cell? ⟨g, 0, none⟩ = some (.int .i64 1) := (scells M6.out.blk).c0
    have hl6 : g < w6.heap.size := M6.out.blk.lt
    have hiN : Inv (newV 8) := new_inv (by omega) (by omega)
    have hcN : Rto.Inv (Rto.newV 2 1 32 8) := Rto.new_inv (by omega) (by omega) (by omega) (by omega) (by omega) (by omega)
    go_wp2_with fail
    have f7 : Fr [g] w6 (w6.setCell ⟨g, 0, none⟩ (.int .i64 2)) := (Fr.refl [g] w6).setCell (p := ⟨g, 0, none⟩) (.inl (by simp)) _
    have m7 := M6.out.set (w' := w6.setCell ⟨g, 0, none⟩ (.int .i64 2)) (x' := newS isn 2) f7 (by have h := M6.out.blk.set_ 0 (.int .i64 2); exact h) rfl rfl rfl rfl rfl
    generalize w6.setCell ⟨g, 0, none⟩ (.int .i64 2) = w7 at *
    refine (begins_si m7 hiN (by simp [newS])).mono ?_
    have hv : newSV isn true = (restsV (shows (newS isn 2)), [beginsV (newS isn 2)]) := rfl
    have HV := Lib.hid hv
    clear hv
    generalize hpp : beginsV (newS isn 2) = p at *
    rintro e w8 ⟨S8, A8, c8, rfl, x8, by8, m8, f8⟩
    have m9 := m8.fr ((Fr.refl [] w8).alloc (.cells (arP p (.slice A8 p.d.length c8)) 27))
    have p9 := pr_one by8
    have hz8 : w.heap.size ≤ w7.heap.size := by have := FF6.out.size; have := f7.size; omega
    have X8 : Hid (Ext w S S8) := Lib.hid (ext_up x8 hz8)
    have F8 : Hid (Fr [] w w8) := Lib.hid ((FF6.out.trans f7 (fun y hy => .inr (by simp at hy; omega))).trans f8 (fun y hy => .inr (by simp at hy; omega)))
    have HWS : Hid (w6.heap.size ≤ w8.heap.size) := Lib.hid (Nat.le_trans f7.size f8.size)
    have hp8 : ∀ b, S8 b → b < w8.heap.size := HP.pub' m8.hp
    have HP8 := Lib.hid hp8
    have P9 := Lib.hid p9
    have M9 := Lib.hid m9
    clear x8 by8 m8 f8 m7 f7 hp8 p9 m9 z0 d0
    go_wp2_with fail
    refine (rests_si M9.out hcN (some ⟨w8.heap.size, 0, none⟩) 1 1).mono ?_
    rintro e wa ⟨rfl, ma, fa⟩
    have MA := Lib.hid ma
    have FA := Lib.hid fa
    clear ma fa
    go_wp2_with fail
    go_ret2
    rw [HV.out]
    have hcw : gc < w8.heap.size := by
      have h1 := M6.out.lt gc (by simp [Hd.own])
      have h2 : w6.heap.size ≤ w8.heap.size := by
        have := HWS.out
        omega
      omega
    exact ⟨S8, _, _, [(p, .slice A8 p.d.length c8)], rfl, rfl, X8.out, MA.out, P9.out.fr FA.out (fun y hy => by simp at hy; subst hy; exact M9.out.nS _ (.inr (.inr (.inl rfl)))) (fun b hb => by simp [ob, Value.ownBlock] at hb; subst hb; simp; omega) (fun _ h => h), fun b hb => by
      simp [ob, Value.ownBlock] at hb
      subst hb
      exact ⟨F8.out.size, fun hs => by have := HP8.out _ hs; omega⟩, (F8.out.alloc _).trans FA.out (fun y hy => .inr (by simp at hy; subst hy; exact HOWN.out _ (by simp [Hd.own]))), HOWN.out⟩
end Go.Proofs.Ytmgdbbbdhkfdmaa

namespace Go.Proofs.Ytmgdbbbdhkfdmaa
set_option maxRecDepth 100000
open Go.RowKit Go.Deep

theorem over_si {S : Nat → Prop} {w : World} {H : Hd} {x : St} (m : SI S w H x) : Calls Try.prog 27 #[ptr H.g] w fun e w' => e = .returned (.bool (overV x)) ∧ Fr [] w w' := by
  have c := scells m.blk
  have c0 := c.c0
  have c11 := c.c11
  have hv : overV x = (x.at_ == 5 || x.closing) := rfl
  generalize overV x = r at *
  clear c m
  by_cases h : x.at_ = 5
  · obtain rfl : r = true := by rw [hv]; simp [h]
    rw [h] at c0
    clear hv
    go_enter Try.func27, Try.ntmps27
    go_wp2_with fail
    go_ret
    first | exact ⟨rfl, Fr.refl _ _⟩ | exact ⟨rfl, (Fr.refl _ _).drew⟩
  · have h1 : decide (x.at_ = 5) = false := by simpa using h
    have h2 : (x.at_ == 5) = false := by simpa using h
    obtain rfl : r = x.closing := by rw [hv, h2]; rfl
    clear hv
    go_enter Try.func27, Try.ntmps27
    go_wp2_with fail
    go_ret
    first | exact ⟨rfl, Fr.refl _ _⟩ | exact ⟨rfl, (Fr.refl _ _).drew⟩
end Go.Proofs.Ytmgdbbbdhkfdmaa

namespace Go.Proofs.Ytmgdbbbdhkfdmaa
set_option maxRecDepth 100000
open Go.RowKit

theorem info_part : (Try.prog.info? 27).map (fun i => (i.zero, i.size, i.bytes)) = some (some (.agg #[.int .i64 0, .int .u32 0, .int .u32 0, .int .u16 0, .slice none 0 0]), 5, 48) := by kernel_rfl
/-- A part was appended to a list of parts. -/
theorem Pr.app {S : Nat → Prop} {w w' : World} {v v' dv : Value} {L : List (Prt × Value)} {p : Prt} (h : Pr S w v L) (own : w'.ownsRow 0 27 5 v' (L.length + 1) (prs L ++ [.int .i64 p.flags, .int .u32 p.seq, .int .u32 p.ack, .int .u16 p.win, dv])) (f : Fr (ob v) w w') (hv : ∀ b ∈ ob v, ¬ S b) (hb : Byt S w dv p.d) : Pr S w' v' (L ++ [(p, dv)]) := by
  refine ⟨?_, fun x hx => ?_⟩
  · rw [List.length_append, ← prs_app]
    exact own
  · rcases List.mem_append.1 hx with hx | hx
    · exact (h.byt x hx).fr f hv
    · rw [List.mem_singleton] at hx
      subst hx
      exact hb.fr f hv
end Go.Proofs.Ytmgdbbbdhkfdmaa
