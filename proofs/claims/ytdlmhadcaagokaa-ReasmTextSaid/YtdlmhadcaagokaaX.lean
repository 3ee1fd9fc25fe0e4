import Derived.Test.YtdlmhadcaagokaaU
import Derived.Test.YtdlmhadcaagokaaGg
import Derived.Test.YtdlmhadcaagokaaK
import Derived.Test.YtdlmhadcaagokaaL
import Derived.Test.YtdlmhadcaagokaaI
import Derived.Test.YtdlmhadcaagokaaM
import Derived.Test.YtdlmhadcaagokaaKit3
import Derived.Deep.DeepCutAuto
namespace Go.Proofs.Ytdlmhadcaagokaa
open Go.RowKit Go.Deep

section
variable {H : Type} {enc : TypeId × Value → H} {w : World} {base : Nat} {spare : Nat → Bool} {held : Bool}
theorem reads_bytes {fuel : Nat} {v : Value} {x : DataW H × List MemPlace} (h : DataW.trod enc Try.prog w base spare held fuel 35 [v] = some x) : ∃ d : List Int, Byt (fun b => b < w.heap.size) w v d := by
  have h0 := h
  rcases Go.Deep.open_slice1 Try.underlying35 (by kernel_rfl) h with ⟨hcs, _⟩ | ⟨a, l, c, m, n, V, D, Pl, hcs, _, hl, hm, hmm, _, hcell⟩
  · simp at hcs
    subst hcs
    exact ⟨[], Byt.nil⟩
  · simp at hcs
    subst hcs
    obtain ⟨zs, hr, _, _⟩ := reads_ints Try.underlying35 Try.underlying5 (by kernel_rfl) h0
    refine ⟨(List.range l).map zs, ?_⟩
    unfold Byt
    rw [show ((List.range l).map zs).length = l by simp]
    refine ⟨by simp [byts], some a, c, rfl, hl, hm, fun h1 => ?_⟩
    obtain ⟨ad, e, hb, hc⟩ := hr 0 h1
    injection e with e
    subst e
    obtain ⟨b, o, spot⟩ := a
    have hsp : spot = none := by simpa [Addr.add] using World.cell?_spot hc
    subst hsp
    refine ⟨b, o, rfl, hb, fun j u hj => ?_⟩
    have hjl : j < l := by
      rcases Nat.lt_or_ge j l with h' | h'
      · exact h'
      · simp [byts, List.getElem?_eq_none (show (List.range l).length ≤ j by simpa using h')] at hj
    obtain ⟨ad', e', _, hc'⟩ := hr j hjl
    injection e' with e'
    subst e'
    rw [add_lit'] at hc'
    rw [hc', ← hj]
    simp [byts, hjl]
end

/-- An act. -/
structure PAct where
  kind : Int
  at_ : Int
  d : List Int
  near : Bool
  dv : Value
/-- The list of acts that came in. -/
def Acts (w : World) (B : Nat) (A : Option Addr) (n : Nat) (f : Nat → PAct) : Prop :=
  ∀ i, i < n → ∃ b o, A = some ⟨b, o, none⟩ ∧ b < B ∧ w.cell? ⟨b, o + i * 4, none⟩ = some (.int .i64 (f i).kind) ∧ w.cell? ⟨b, o + i * 4 + 1, none⟩ = some (.int .i64 (f i).at_) ∧ w.cell? ⟨b, o + i * 4 + 2, none⟩ = some (f i).dv ∧
    w.cell? ⟨b, o + i * 4 + 3, none⟩ = some (.bool (f i).near) ∧ Byt (fun b => b < B) w (f i).dv (f i).d
theorem Acts.fr {w w' : World} {B : Nat} {A : Option Addr} {n : Nat} {f : Nat → PAct} {O : List Nat} (h : Acts w B A n f) (hf : Fr O w w') (hB : B ≤ w.heap.size) (hO : ∀ x ∈ O, B ≤ x) : Acts w' B A n f := by
  intro i hi
  obtain ⟨b, o, e, hb, h0, h1, h2, h3, h4⟩ := h i hi
  have hc : ∀ j, w'.cell? ⟨b, j, none⟩ = w.cell? ⟨b, j, none⟩ := fun j => hf.cell (p := ⟨b, j, none⟩) (by show b < _; omega) (fun hm => by have := hO _ hm; dsimp only at this; omega)
  exact ⟨b, o, e, hb, by rw [hc]; exact h0, by rw [hc]; exact h1, by rw [hc]; exact h2, by rw [hc]; exact h3, h4.fr hf (fun x hx hs => by have := hO _ hx; omega)⟩
theorem reads_acts {H : Type} {enc : TypeId × Value → H} {w : World} {base : Nat} {spare : Nat → Bool} {held : Bool} {fuel : Nat} {a : Option Addr} {len cap : Nat} {x : DataW H × List MemPlace}
    (h : DataW.trod enc Try.prog w base spare held fuel 22 [.slice a len cap] = some x) : len ≤ maxLen ∧ ∃ f, Acts w w.heap.size a len f := by
  have hu : ∃ f0 f1 f2 f3 : Field, Try.prog.underlying 37 = some (.struct #[f0, f1, f2, f3]) ∧ f0.type = 3 ∧ f1.type = 2 ∧ f2.type = 35 ∧ f3.type = 4 ∧ oneCellFields Try.prog #[f0, f1, f2, f3] = true := ⟨_, _, _, _, Try.underlying37, rfl, rfl, rfl, rfl, by kernel_rfl⟩
  obtain ⟨f0, f1, f2, f3, hs, t0, t1, t2, t3, hone⟩ := hu
  obtain ⟨hl, hf⟩ := slice_fields Try.underlying22 hs hone (by kernel_rfl) h
  refine ⟨hl, ?_⟩
  have key : ∀ i, ∃ p : PAct, i < len → ∃ b o, a = some ⟨b, o, none⟩ ∧ b < w.heap.size ∧ w.cell? ⟨b, o + i * 4, none⟩ = some (.int .i64 p.kind) ∧ w.cell? ⟨b, o + i * 4 + 1, none⟩ = some (.int .i64 p.at_) ∧ w.cell? ⟨b, o + i * 4 + 2, none⟩ = some p.dv ∧
      w.cell? ⟨b, o + i * 4 + 3, none⟩ = some (.bool p.near) ∧ Byt (fun b => b < w.heap.size) w p.dv p.d := by
    intro i
    by_cases hi : i < len
    · obtain ⟨ad, rfl, n, hj⟩ := hf i hi
      obtain ⟨v0, y0, hb, c0, d0⟩ := hj 0 f0 rfl
      obtain ⟨v1, y1, _, c1, d1⟩ := hj 1 f1 rfl
      obtain ⟨v2, y2, _, c2, d2⟩ := hj 2 f2 rfl
      obtain ⟨v3, y3, _, c3, d3⟩ := hj 3 f3 rfl
      rw [t0] at d0
      rw [t1] at d1
      rw [t2] at d2
      rw [t3] at d3
      obtain ⟨q0, e0, _, _⟩ := DataW.trod_int Try.underlying3 d0
      obtain ⟨q1, e1, _, _⟩ := DataW.trod_int Try.underlying2 d1
      obtain ⟨q3, e3, _⟩ := DataW.trod_bool Try.underlying4 d3
      obtain ⟨d, hd⟩ := reads_bytes d2
      simp only [List.cons.injEq, and_true] at e0 e1 e3
      subst e0 e1 e3
      obtain ⟨b, o, spot⟩ := ad
      have hsp : spot = none := by
        obtain ⟨ad', e', n', hj'⟩ := hf 0 (by omega)
        injection e' with e'
        subst e'
        obtain ⟨_, _, _, c', _⟩ := hj' 0 f0 rfl
        simpa [Addr.add] using World.cell?_spot c'
      subst hsp
      refine ⟨⟨q0, q1, d, q3, v2⟩, fun _ => ⟨b, o, rfl, hb, ?_, ?_, ?_, ?_, hd⟩⟩
      · rw [← c0, add_lit']; rfl
      · rw [← c1, add_lit']; simp [Nat.add_assoc]
      · rw [← c2, add_lit']; simp [Nat.add_assoc]
      · rw [← c3, add_lit']; simp [Nat.add_assoc]
    · exact ⟨⟨0, 0, [], false, undef⟩, fun h => absurd h hi⟩
  obtain ⟨F, hF⟩ := Classical.axiomOfChoice key
  exact ⟨F, fun i hi => hF i hi⟩
end Go.Proofs.Ytdlmhadcaagokaa
