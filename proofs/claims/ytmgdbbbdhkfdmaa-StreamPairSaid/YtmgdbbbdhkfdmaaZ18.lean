import Derived.Test.YtmgdbbbdhkfdmaaZ17
import Derived.Test.YtmgdbbbdhkfdmaaZ14
import Derived.Deep.DeepCutAuto
import Derived.WalkKit
import Derived.ProofKit
import Derived.OpenShut
import Derived.ShutString
import Derived.ChangeOld
import Derived.Below
import Derived.Deep.Slices
import Derived.Lib.SmallJoins
set_option linter.unusedSimpArgs false
set_option linter.unusedVariables false
/-
  StreamNil: the walk.
-/
namespace Go.Proofs.Ytmgdbbbdhkfdmaa
set_option maxRecDepth 100000
open Go.RowKit Go.Deep

theorem eqForm (w : World) : (Op.equalIn 10000 34 (.agg formZ) (.agg formZ)).run Try.prog w = .ok true w := by
  have h1 : Try.prog.stoodInHeld 34 = false := by kernel_rfl
  have h2 : Try.prog.stoodInHeld 32 = false := by kernel_rfl
  simp [go_sem, h1, h2]
theorem eqlForm (w : World) : (binOp .eql 34 (.agg formZ) (.agg formZ)).run Try.prog w = .ok (.bool true) w := by
  rw [run_eql_struct, eqForm]; rfl
theorem eqgForm (op : BinOp) (x y : Operand) (xs ys : Array Value) (w : World) : (eqGuard op 34 x y (.agg xs) (.agg ys)).run Try.prog w = .ok () w := run_eqGuard_agg w op 34 x y xs ys (by kernel_rfl)
set_option maxHeartbeats 8000000 in
theorem nil_any (p : Prt) (A : Option Addr) (n c : Nat) (w : World) : Calls Try.prog 3 #[.agg #[.int .i64 p.flags, .int .u32 p.seq, .int .u32 p.ack, .int .u16 p.win, .slice A n c]] w fun e w' => e = .returned (.bool true) ∧ Fr [] w w' := by
  obtain ⟨fl, sq, ak, wi, d⟩ := p
  dsimp only
  have f0 : Fr [] w (w.alloc (.cells #[.int .i64 fl, .int .u32 sq, .int .u32 ak, .int .u16 wi, .slice A n c] 27)) := (Fr.refl [] w).alloc _
  have b0 : Blk (w.alloc (.cells #[.int .i64 fl, .int .u32 sq, .int .u32 ak, .int .u16 wi, .slice A n c] 27)) w.heap.size 27 #[.int .i64 fl, .int .u32 sq, .int .u32 ak, .int .u16 wi, .slice A n c] := Blk.new w _ _
  have e1 := eqlForm
  have e2 := eqgForm
  go_enter Try.func3, Try.ntmps3
  go_upto_region 1 with fail
  generalize w.alloc (.cells #[.int .i64 fl, .int .u32 sq, .int .u32 ak, .int .u16 wi, .slice A n c] 27) = w0 at *
  obtain ⟨y0, y1, y2, y3, y4⟩ := cells5 b0
  by_cases hn : 100 < n
  · have d0 : decide (100 < (n : Int)) = true := by simp; omega
    have d1 : decide ((n : Int) > 100) = true := by simp; omega
    go_wp2_with fail
    refine (known_any _).mono ?_
    rintro e w6 ⟨rfl, f6⟩
    go_wp2_with fail
    go_ret
    exact ⟨rfl, f0.trans f6 (by simp)⟩
  · have d0 : decide (100 < (n : Int)) = false := by simp; omega
    have d1 : decide ((n : Int) > 100) = false := by simp; omega
    go_upto_region 5 with fail
    have fz : Fr [] w (w0.alloc (.cells zeroA 39)) := f0.alloc _
    have hz : Sz (w0.alloc (.cells zeroA 39)) w0.heap.size := Blk.new w0 39 zeroA
    have b1 := b0.alloc (.cells zeroA 39)
    generalize w0.alloc (.cells zeroA 39) = w1 at *
    generalize w0.heap.size = g at *
    obtain ⟨y0, y1, y2, y3, y4⟩ := cells5 b1
    have B1 := Lib.hid b1
    have FZ := Lib.hid fz
    clear b0 b1 f0 fz
    go_wp2_with fail
    refine (come_nil _ fl sq ak wi _).mono ?_
    rintro e w2 ⟨rfl, f2⟩
    have z2 : Sz w2 g := Blk.fr hz f2 (by simp)
    have y4 := fr_cell f2 y4
    have F2 := Lib.hid (FZ.out.trans f2 (by simp))
    clear hz f2 FZ B1 y0 y1 y2 y3
    go_wp2_with fail
    refine (write_z z2 _ _ _).mono ?_
    rintro e w3 ⟨rfl, rfl⟩
    go_wp2_with fail
    refine (close_nil _).mono ?_
    rintro e w3 ⟨rfl, rfl⟩
    go_wp2_with fail
    refine (tick_z z2).mono ?_
    rintro e w3 ⟨rfl, rfl⟩
    go_wp2_with fail
    refine (reset_nil _).mono ?_
    rintro e w3 ⟨rfl, rfl⟩
    go_wp2_with fail
    refine (new_si (fun b => b < w2.heap.size) 1 false w2 (fun b h => h)).mono ?_
    rintro e w3 ⟨S3, H3, v3, L3, rfl, hL3, x3, m3, p3, n3, f3, l3⟩
    obtain ⟨vA, vk, hv3⟩ := p3.none_ hL3
    subst hv3
    have z3 : Sz w3 g := Blk.fr z2 f3 (by simp)
    have c3 : w3.cell? ⟨H3.g, 16, none⟩ = some (ptr H3.gw) := (scells m3.blk).c16
    have F3 := Lib.hid (F2.out.trans f3 (by simp))
    clear z2 F2 f3 hL3 x3 m3 p3 n3 l3 y4
    go_wp2_with fail
    refine (read_nil _).mono ?_
    rintro e w4 ⟨rfl, rfl⟩
    go_wp2_with fail
    refine (state_nil_z z3).mono ?_
    rintro e w4 ⟨rfl, f4⟩
    have z4 : Sz w4 g := Blk.fr z3 f4 (by simp)
    have c4 := fr_cell f4 c3
    have F4 := Lib.hid (F3.out.trans f4 (by simp))
    clear z3 c3 F3 f4
    go_wp2_with fail
    refine (scopy_nil _).mono ?_
    rintro e w5 ⟨rfl, rfl⟩
    go_wp2_with fail
    refine (ssame_nil_z z4).mono ?_
    rintro e w5 ⟨rfl, rfl⟩
    go_wp2_with fail
    refine (ssame_nil_si c4).mono ?_
    rintro e w5 ⟨rfl, rfl⟩
    go_wp2_with fail
    refine (ssame_si_z c4 z4).mono ?_
    rintro e w5 ⟨rfl, rfl⟩
    go_wp2_with fail
    refine (known_any _).mono ?_
    rintro e w6 ⟨rfl, f6⟩
    go_wp2_with fail
    go_ret
    exact ⟨rfl, F4.out.trans f6 (by simp)⟩
end Go.Proofs.Ytmgdbbbdhkfdmaa

/-
  A part that comes in, by value.
-/
namespace Go.Proofs.Ytmgdbbbdhkfdmaa
set_option maxRecDepth 100000
open Go.ChangeShapes Go.WideShapes Go.ChangeAt Go.RowKit Go.Deep Go.Joins

theorem array5 {α : Type} {cs : Array α} (h : cs.size = 5) : ∃ c0 c1 c2 c3 c4, cs = #[c0, c1, c2, c3, c4] := by
  obtain ⟨l⟩ := cs
  match l, h with
  | [c0, c1, c2, c3, c4], _ => exact ⟨c0, c1, c2, c3, c4, rfl⟩
section
variable {H : Type} {enc : TypeId × Value → H} {P : Program} {w : World} {base : Nat} {spare : Nat → Bool} {held : Bool}
theorem open_agg5 {r : Reach} {b0 : Nat} {t : TypeId} {f0 f1 f2 f3 f4 : Field} {v : Value} {d : DataW H} {p : List MemPlace} (hs : P.underlying t = some (.struct #[f0, f1, f2, f3, f4])) (hone : oneCellFields P #[f0, f1, f2, f3, f4] = true) (hC : P.cellsOf t = 5)
    (hv : Value.okWide P w r b0 t v) (h : DataW.Trod enc P w base spare held t v d p) :
    ∃ (v0 v1 v2 v3 v4 : Value) (y0 y1 y2 y3 y4 : DataW H × List MemPlace) (n : Nat), v = .agg #[v0, v1, v2, v3, v4] ∧
      DataW.trod enc P w base spare held n f0.type [v0] = some y0 ∧ DataW.trod enc P w base spare held n f1.type [v1] = some y1 ∧ DataW.trod enc P w base spare held n f2.type [v2] = some y2 ∧ DataW.trod enc P w base spare held n f3.type [v3] = some y3 ∧ DataW.trod enc P w base spare held n f4.type [v4] = some y4 := by
  obtain ⟨cs, rfl, hsz⟩ := okWide_struct hs hv
  obtain ⟨c0, c1, c2, c3, c4, rfl⟩ := array5 (hsz.trans hC)
  obtain ⟨fuel, hf⟩ := h
  obtain ⟨xs, n, _, _, _, hlen, hat⟩ := DataW.trod_struct hs hf
  obtain ⟨o0, k0⟩ := hone_of hone 0 f0 rfl
  obtain ⟨o1, k1⟩ := hone_of hone 1 f1 rfl
  obtain ⟨o2, k2⟩ := hone_of hone 2 f2 rfl
  obtain ⟨o3, k3⟩ := hone_of hone 3 f3 rfl
  obtain ⟨o4, k4⟩ := hone_of hone 4 f4 rfl
  match xs, hlen with
  | [y0, y1, y2, y3, y4], _ =>
    exact ⟨c0, c1, c2, c3, c4, y0, y1, y2, y3, y4, n, rfl, by simpa [Value.cells, o0, k0] using hat 0 f0 rfl, by simpa [Value.cells, o1, k1] using hat 1 f1 rfl, by simpa [Value.cells, o2, k2] using hat 2 f2 rfl, by simpa [Value.cells, o3, k3] using hat 3 f3 rfl, by simpa [Value.cells, o4, k4] using hat 4 f4 rfl⟩
end
theorem open_part {H : Type} {enc : TypeId × Value → H} {w : World} {base : Nat} {spare : Nat → Bool} {held : Bool} {r : Reach} {b0 : Nat} {v : Value} {d : DataW H} {p : List MemPlace}
    (hv : Value.okWide Try.prog w r b0 27 v) (h : DataW.Trod enc Try.prog w base spare held 27 v d p) : ∃ (f s a wi : Int) (A : Option Addr) (n c : Nat), v = .agg #[.int .i64 f, .int .u32 s, .int .u32 a, .int .u16 wi, .slice A n c] := by
  obtain ⟨v0, v1, v2, v3, v4, y0, y1, y2, y3, y4, n, rfl, h0, h1, h2, h3, h4⟩ := open_agg5 Try.underlying27 (by kernel_rfl) (by kernel_rfl) hv h
  obtain ⟨f, e0, _, _⟩ := DataW.trod_int Try.underlying22 h0
  obtain ⟨s, e1, _, _⟩ := DataW.trod_int Try.underlying23 h1
  obtain ⟨a, e2, _, _⟩ := DataW.trod_int Try.underlying23 h2
  obtain ⟨wi, e3, _, _⟩ := DataW.trod_int Try.underlying24 h3
  obtain ⟨A, l, c, e4⟩ := slice_form Try.underlying25 h4
  simp only [List.cons.injEq, and_true] at e0 e1 e2 e3 e4
  subst e0 e1 e2 e3 e4
  exact ⟨f, s, a, wi, A, l, c, rfl⟩
end Go.Proofs.Ytmgdbbbdhkfdmaa
