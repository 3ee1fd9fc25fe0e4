import Derived.Test.YthhageigbonoaaaG
import Derived.Test.YthhageigbonoaaaKit3
namespace Go.Proofs.Ythhageigbonoaaa
open Go.RowKit Go.Deep

/-- The list of acts that came in. -/
structure Acts (w : World) (B : Nat) (A : Option Addr) (n : Nat) (K N R : Nat → Int) (E : Nat → Bool) : Prop where
  at_ : ∀ i, i < n → ∃ b o, A = some ⟨b, o, none⟩ ∧ b < B ∧ w.cell? ⟨b, o + i * 4, none⟩ = some (.int .i64 (K i)) ∧ w.cell? ⟨b, o + i * 4 + 1, none⟩ = some (.int .i64 (N i)) ∧ w.cell? ⟨b, o + i * 4 + 2, none⟩ = some (.int .i64 (R i)) ∧ w.cell? ⟨b, o + i * 4 + 3, none⟩ = some (.bool (E i))
theorem Acts.fr {w w' : World} {B : Nat} {A : Option Addr} {n : Nat} {K N R : Nat → Int} {E : Nat → Bool} {O : List Nat} (h : Acts w B A n K N R E) (hf : Fr O w w') (hB : B ≤ w.heap.size) (hO : ∀ x ∈ O, B ≤ x) : Acts w' B A n K N R E := by
  refine ⟨fun i hi => ?_⟩
  obtain ⟨b, o, e, hb, h0, h1, h2, h3⟩ := h.at_ i hi
  have hc : ∀ j, w'.cell? ⟨b, j, none⟩ = w.cell? ⟨b, j, none⟩ := fun j => hf.cell (p := ⟨b, j, none⟩) (by show b < _; omega) (fun hm => by have := hO _ hm; dsimp only at this; omega)
  exact ⟨b, o, e, hb, by rw [hc]; exact h0, by rw [hc]; exact h1, by rw [hc]; exact h2, by rw [hc]; exact h3⟩

theorem reads_acts {H : Type} {enc : TypeId × Value → H} {w : World} {base : Nat} {spare : Nat → Bool} {held : Bool} {fuel : Nat} {a : Option Addr} {len cap : Nat} {x : DataW H × List MemPlace}
    (h : DataW.trod enc Try.prog w base spare held fuel 29 [.slice a len cap] = some x) : len ≤ maxLen ∧ ∃ K N R E, Acts w w.heap.size a len K N R E := by
  have hu : ∃ f0 f1 f2 f3 : Field, Try.prog.underlying 37 = some (.struct #[f0, f1, f2, f3]) ∧ f0.type = 3 ∧ f1.type = 2 ∧ f2.type = 3 ∧ f3.type = 4 ∧ oneCellFields Try.prog #[f0, f1, f2, f3] = true := ⟨_, _, _, _, Try.underlying37, rfl, rfl, rfl, rfl, by kernel_rfl⟩
  obtain ⟨f0, f1, f2, f3, hs, t0, t1, t2, t3, hone⟩ := hu
  obtain ⟨hl, hf⟩ := slice_fields Try.underlying29 hs hone (by kernel_rfl) h
  refine ⟨hl, ?_⟩
  have key : ∀ i, i < len → ∃ k n r : Int, ∃ e : Bool, ∃ b o, a = some ⟨b, o, none⟩ ∧ b < w.heap.size ∧ w.cell? ⟨b, o + i * 4, none⟩ = some (.int .i64 k) ∧ w.cell? ⟨b, o + i * 4 + 1, none⟩ = some (.int .i64 n) ∧ w.cell? ⟨b, o + i * 4 + 2, none⟩ = some (.int .i64 r) ∧ w.cell? ⟨b, o + i * 4 + 3, none⟩ = some (.bool e) := by
    intro i hi
    obtain ⟨ad, rfl, n, hj⟩ := hf i hi
    obtain ⟨v0, y0, hb, c0, d0⟩ := hj 0 f0 rfl
    obtain ⟨v1, y1, _, c1, d1⟩ := hj 1 f1 rfl
    obtain ⟨v2, y2, _, c2, d2⟩ := hj 2 f2 rfl
    obtain ⟨v3, y3, _, c3, d3⟩ := hj 3 f3 rfl
    rw [t0] at d0
    rw [t1] at d1
    rw [t2] at d2
    rw [t3] at d3
    obtain ⟨q0, e0, _, _⟩ := DataW.trod_int Try.underlying3 d0
    obtain ⟨q1, e1, _, _⟩ := DataW.trod_int Try.underlying2 d1
    obtain ⟨q2, e2, _, _⟩ := DataW.trod_int Try.underlying3 d2
    obtain ⟨q3, e3, _⟩ := DataW.trod_bool Try.underlying4 d3
    simp only [List.cons.injEq, and_true] at e0 e1 e2 e3
    subst e0 e1 e2 e3
    obtain ⟨b, o, spot⟩ := ad
    have hsp : spot = none := by
      obtain ⟨ad', e', n', hj'⟩ := hf 0 (by omega)
      injection e' with e'
      subst e'
      obtain ⟨_, _, _, c', _⟩ := hj' 0 f0 rfl
      simpa [Addr.add] using World.cell?_spot c'
    subst hsp
    simp only [Addr.add] at c0 c1 c2 c3
    refine ⟨q0, q1, q2, q3, b, o, rfl, hb, ?_, ?_, ?_, ?_⟩
    · rw [← c0]; split <;> simp_all
    · rw [← c1]; simp [Nat.add_assoc]
    · rw [← c2]; simp [Nat.add_assoc]
    · rw [← c3]; simp [Nat.add_assoc]
  have hch : ∀ i, ∃ k : Int × Int × Int × Bool, i < len → ∃ b o, a = some ⟨b, o, none⟩ ∧ b < w.heap.size ∧ w.cell? ⟨b, o + i * 4, none⟩ = some (.int .i64 k.1) ∧ w.cell? ⟨b, o + i * 4 + 1, none⟩ = some (.int .i64 k.2.1) ∧ w.cell? ⟨b, o + i * 4 + 2, none⟩ = some (.int .i64 k.2.2.1) ∧ w.cell? ⟨b, o + i * 4 + 3, none⟩ = some (.bool k.2.2.2) := by
    intro i
    by_cases hi : i < len
    · obtain ⟨k, n, r, e, h⟩ := key i hi
      exact ⟨(k, n, r, e), fun _ => h⟩
    · exact ⟨(0, 0, 0, false), fun h => absurd h hi⟩
  obtain ⟨F, hF⟩ := Classical.axiomOfChoice hch
  exact ⟨fun i => (F i).1, fun i => (F i).2.1, fun i => (F i).2.2.1, fun i => (F i).2.2.2, ⟨fun i hi => hF i hi⟩⟩

theorem new_win (w : World) : Calls Try.prog 11 #[] w fun e w' => e = .returned (ptr w.heap.size) ∧ Fr [] w w' ∧ Win w' w.heap.size ⟨0, 0, 0, 0⟩ true ∧ w.heap.size < w'.heap.size := by
  go_enter Try.func11, Try.ntmps11
  go_wp2
  go_ret
  exact ⟨rfl, (Fr.refl _ _).alloc _, Blk.new _ _ _, by simp⟩

theorem known_any (w : World) : Calls Try.prog 10 #[] w fun e w' => e = .returned (.bool true) ∧ Fr [] w w' := by
  go_enter Try.func10, Try.ntmps10
  go_wp2_with fail
  refine (new_win w).mono ?_
  rintro e w1 ⟨rfl, f1, m1, z1⟩
  go_wp2_with fail
  refine (take_win _ _ 1 _ 1000 (by omega) (by unfold Inv; dsimp only; omega) m1).mono ?_
  rintro e w2 ⟨rfl, f2, m2⟩
  rw [show takeV ⟨0, 0, 0, 0⟩ 1 = (⟨0, 0, 0, 0⟩, 0, 231) from by rfl] at m2 ⊢
  dsimp only
  go_wp2_with fail
  refine (ack_win _ _ 0 10 _ 1000 (by omega) (by unfold Inv; dsimp only; omega) m2).mono ?_
  rintro e w3 ⟨rfl, f3, m3⟩
  rw [show ackV ⟨0, 0, 0, 0⟩ 0 10 = (⟨0, 0, 0, 10⟩, 0, 0) from by rfl] at m3 ⊢
  dsimp only
  go_wp2_with fail
  refine (take_win _ _ 4 _ 1000 (by omega) (by unfold Inv; dsimp only; omega) m3).mono ?_
  rintro e w4 ⟨rfl, f4, m4⟩
  rw [show takeV ⟨0, 0, 0, 10⟩ 4 = (⟨0, 4, 4, 10⟩, 0, 0) from by rfl] at m4 ⊢
  dsimp only
  go_wp2_with fail
  refine (ack_win _ _ 4 0 _ 1000 (by omega) (by unfold Inv; dsimp only; omega) m4).mono ?_
  rintro e w5 ⟨rfl, f5, m5⟩
  rw [show ackV ⟨0, 4, 4, 10⟩ 4 0 = (⟨4, 4, 4, 10⟩, 4, 0) from by rfl] at m5 ⊢
  dsimp only
  have F : Fr [] w w5 := (((f1.trans f2 (by simp)).trans f3 (by simp)).trans f4 (by simp)).trans f5 (by simp)
  clear f1 f2 f3 f4 f5 m1 m2 m3 m4
  go_wp2_with fail
  refine (room_fr _ _ _ 1000 (by omega) (by unfold Inv; dsimp only; omega) m5).mono ?_
  rintro e w6 ⟨rfl, f6⟩
  rw [show roomV ⟨4, 4, 4, 10⟩ = 6 from by decide]
  have m6 : Win w6 _ _ true := Blk.fr m5 f6 (by simp)
  go_wp2_with fail
  refine (zero_fr _ _ _ m6).mono ?_
  rintro e w7 ⟨rfl, f7⟩
  rw [show zeroV ⟨4, 4, 4, 10⟩ = false from by decide]
  go_wp2_with fail
  go_ret
  exact ⟨rfl, (F.trans f6 (by simp)).trans f7 (by simp)⟩
end Go.Proofs.Ythhageigbonoaaa
