import Derived.Test.YtkpgkoeclhlidaaM
import Derived.Deep.DeepCutAuto
namespace Go.Proofs.Ytkpgkoeclhlidaa
open Go.RowKit Go.Deep

/-- The list of acts that came in. -/
structure Acts (w : World) (B : Nat) (A : Option Addr) (n : Nat) (K N : Nat → Int) (E : Nat → Bool) : Prop where
  at_ : ∀ i, i < n → ∃ b o, A = some ⟨b, o, none⟩ ∧ b < B ∧ w.cell? ⟨b, o + i * 3, none⟩ = some (.int .i64 (K i)) ∧ w.cell? ⟨b, o + i * 3 + 1, none⟩ = some (.int .i64 (N i)) ∧ w.cell? ⟨b, o + i * 3 + 2, none⟩ = some (.bool (E i))
theorem Acts.fr {w w' : World} {B : Nat} {A : Option Addr} {n : Nat} {K N : Nat → Int} {E : Nat → Bool} {O : List Nat} (h : Acts w B A n K N E) (hf : Fr O w w') (hB : B ≤ w.heap.size) (hO : ∀ x ∈ O, B ≤ x) : Acts w' B A n K N E := by
  refine ⟨fun i hi => ?_⟩
  obtain ⟨b, o, e, hb, h0, h1, h2⟩ := h.at_ i hi
  have hc : ∀ j, w'.cell? ⟨b, j, none⟩ = w.cell? ⟨b, j, none⟩ := fun j => hf.cell (p := ⟨b, j, none⟩) (by show b < _; omega) (fun hm => by have := hO _ hm; dsimp only at this; omega)
  exact ⟨b, o, e, hb, by rw [hc]; exact h0, by rw [hc]; exact h1, by rw [hc]; exact h2⟩

theorem reads_acts {H : Type} {enc : TypeId × Value → H} {w : World} {base : Nat} {spare : Nat → Bool} {held : Bool} {fuel : Nat} {a : Option Addr} {len cap : Nat} {x : DataW H × List MemPlace}
    (h : DataW.trod enc Try.prog w base spare held fuel 37 [.slice a len cap] = some x) : len ≤ maxLen ∧ ∃ K N E, Acts w w.heap.size a len K N E := by
  have hu : ∃ f0 f1 f2 : Field, Try.prog.underlying 45 = some (.struct #[f0, f1, f2]) ∧ f0.type = 3 ∧ f1.type = 3 ∧ f2.type = 4 ∧ oneCellFields Try.prog #[f0, f1, f2] = true := ⟨_, _, _, Try.underlying45, rfl, rfl, rfl, by kernel_rfl⟩
  obtain ⟨f0, f1, f2, hs, t0, t1, t2, hone⟩ := hu
  obtain ⟨hl, hf⟩ := slice_fields Try.underlying37 hs hone (by kernel_rfl) h
  refine ⟨hl, ?_⟩
  have key : ∀ i, i < len → ∃ k n : Int, ∃ e : Bool, ∃ b o, a = some ⟨b, o, none⟩ ∧ b < w.heap.size ∧ w.cell? ⟨b, o + i * 3, none⟩ = some (.int .i64 k) ∧ w.cell? ⟨b, o + i * 3 + 1, none⟩ = some (.int .i64 n) ∧ w.cell? ⟨b, o + i * 3 + 2, none⟩ = some (.bool e) := by
    intro i hi
    obtain ⟨ad, rfl, n, hj⟩ := hf i hi
    obtain ⟨v0, y0, hb, c0, d0⟩ := hj 0 f0 rfl
    obtain ⟨v1, y1, _, c1, d1⟩ := hj 1 f1 rfl
    obtain ⟨v2, y2, _, c2, d2⟩ := hj 2 f2 rfl
    rw [t0] at d0
    rw [t1] at d1
    rw [t2] at d2
    obtain ⟨q0, e0, _, _⟩ := DataW.trod_int Try.underlying3 d0
    obtain ⟨q1, e1, _, _⟩ := DataW.trod_int Try.underlying3 d1
    obtain ⟨q2, e2, _⟩ := DataW.trod_bool Try.underlying4 d2
    simp only [List.cons.injEq, and_true] at e0 e1 e2
    subst e0 e1 e2
    obtain ⟨b, o, spot⟩ := ad
    have hsp : spot = none := by
      obtain ⟨ad', e', n', hj'⟩ := hf 0 (by omega)
      injection e' with e'
      subst e'
      obtain ⟨_, _, _, c', _⟩ := hj' 0 f0 rfl
      simpa [Addr.add] using World.cell?_spot c'
    subst hsp
    simp only [Addr.add] at c0 c1 c2
    refine ⟨q0, q1, q2, b, o, rfl, hb, ?_, ?_, ?_⟩
    · rw [← c0]; split <;> simp_all
    · rw [← c1]; simp [Nat.add_assoc]
    · rw [← c2]; simp [Nat.add_assoc]
  have hch : ∀ i, ∃ k : Int × Int × Bool, i < len → ∃ b o, a = some ⟨b, o, none⟩ ∧ b < w.heap.size ∧ w.cell? ⟨b, o + i * 3, none⟩ = some (.int .i64 k.1) ∧ w.cell? ⟨b, o + i * 3 + 1, none⟩ = some (.int .i64 k.2.1) ∧ w.cell? ⟨b, o + i * 3 + 2, none⟩ = some (.bool k.2.2) := by
    intro i
    by_cases hi : i < len
    · obtain ⟨k, n, e, h⟩ := key i hi
      exact ⟨(k, n, e), fun _ => h⟩
    · exact ⟨(0, 0, false), fun h => absurd h hi⟩
  obtain ⟨F, hF⟩ := Classical.axiomOfChoice hch
  exact ⟨fun i => (F i).1, fun i => (F i).2.1, fun i => (F i).2.2, ⟨fun i hi => hF i hi⟩⟩

theorem keep14 {w : World} {gb : Nat} {x : Ck} {p q r : Addr} {u0 u1 u2 : Value} (C : Cells w gb x) (a0 : w.cell? p = some u0) (a1 : w.cell? q = some u1) (a2 : w.cell? r = some u2) :
    w.cell? ⟨gb, 0, none⟩ = some (.int .i64 x.f) ∧ w.cell? ⟨gb, 1, none⟩ = some (.int .i64 x.l) ∧ w.cell? ⟨gb, 2, none⟩ = some (.int .i64 x.m) ∧ w.cell? ⟨gb, 3, none⟩ = some (.int .i64 x.t) ∧ w.cell? ⟨gb, 4, none⟩ = some (.bool x.is) ∧ w.cell? ⟨gb, 5, none⟩ = some (.int .i64 x.tm) ∧ w.cell? ⟨gb, 6, none⟩ = some (.int .i64 x.sp) ∧ w.cell? ⟨gb, 7, none⟩ = some (.int .i64 x.wt) ∧ w.cell? ⟨gb, 8, none⟩ = some (.int .i64 x.si) ∧ w.cell? ⟨gb, 9, none⟩ = some (.int .i64 x.tr) ∧ w.cell? ⟨gb, 10, none⟩ = some (.bool x.rn) ∧ w.cell? p = some u0 ∧ w.cell? q = some u1 ∧ w.cell? r = some u2 :=
  ⟨C.c0, C.c1, C.c2, C.c3, C.c4, C.c5, C.c6, C.c7, C.c8, C.c9, C.c10, a0, a1, a2⟩
theorem al1 {w : World} {b j : Nat} {v : Value} (h : w.cell? ⟨b, j, none⟩ = some v) (o : Obj) : (w.alloc o).cell? ⟨b, j, none⟩ = some v := by
  rw [World.cell?_alloc_lt w o _ (World.block_lt_of_cell? w _ h)]; exact h
theorem al1d {w : World} {b j : Nat} {v : Value} (h : w.cell? ⟨b, j, none⟩ = some v) (o : Obj) : (w.alloc o).drew.cell? ⟨b, j, none⟩ = some v := al1 h o
theorem dr1 {w : World} {b j : Nat} {v : Value} (h : w.cell? ⟨b, j, none⟩ = some v) : w.drew.cell? ⟨b, j, none⟩ = some v := h
theorem fr3 {O : List Nat} {w w' : World} {b j : Nat} {v : Value} (F : Fr O w w') (h : w.cell? ⟨b, j, none⟩ = some v) (h2 : b ∉ O) : w'.cell? ⟨b, j, none⟩ = some v :=
  (F.cell (p := ⟨b, j, none⟩) (World.block_lt_of_cell? w _ h) h2).trans h
end Go.Proofs.Ytkpgkoeclhlidaa
