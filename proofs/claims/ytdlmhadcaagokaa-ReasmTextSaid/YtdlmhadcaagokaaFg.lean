import Derived.Test.YtdlmhadcaagokaaFf
import Derived.Deep.DeepCutAuto
import Derived.OpenShut
namespace Go.Proofs.Ytdlmhadcaagokaa
open Go.RowKit Go.Deep Go.Shelf Go.ChangeShapes Go.WideShapes

def Pairs (w : World) (B : Nat) (A : Option Addr) (n : Nat) (f : Nat → Int × Int) : Prop :=
  ∀ i, i < n → ∃ b o, A = some ⟨b, o, none⟩ ∧ b < B ∧ w.cell? ⟨b, o + i * 2, none⟩ = some (.int .i64 (f i).1) ∧ w.cell? ⟨b, o + i * 2 + 1, none⟩ = some (.int .i64 (f i).2) ∧ -9223372036854775808 ≤ (f i).2 ∧ (f i).2 ≤ 9223372036854775807
theorem Pairs.fr {w w' : World} {B : Nat} {A : Option Addr} {n : Nat} {f : Nat → Int × Int} {O : List Nat} (h : Pairs w B A n f) (hf : Fr O w w') (hB : B ≤ w.heap.size) (hO : ∀ x ∈ O, B ≤ x) : Pairs w' B A n f := by
  intro i hi
  obtain ⟨b, o, e, hb, h0, h1, h2⟩ := h i hi
  have hc : ∀ j, w'.cell? ⟨b, j, none⟩ = w.cell? ⟨b, j, none⟩ := fun j => hf.cell (p := ⟨b, j, none⟩) (by show b < _; omega) (fun hm => by have := hO _ hm; dsimp only at this; omega)
  exact ⟨b, o, e, hb, by rw [hc]; exact h0, by rw [hc]; exact h1, h2⟩
theorem reads_pairs {H : Type} {enc : TypeId × Value → H} {w : World} {base : Nat} {spare : Nat → Bool} {held : Bool} {fuel : Nat} {a : Option Addr} {len cap : Nat} {x : DataW H × List MemPlace}
    (h : DataW.trod enc Try.prog w base spare held fuel 42 [.slice a len cap] = some x) : len ≤ maxLen ∧ ∃ f, Pairs w w.heap.size a len f := by
  have hC : Try.prog.cellsOf 47 = 2 := by kernel_rfl
  have hC1 : Try.prog.cellsOf 3 = 1 := by kernel_rfl
  rcases open_slice Try.underlying42 h with ⟨hcs, _⟩ | ⟨ad, l, c, m, n, D, Pl, hcs, hb, hl, hm, hmm, hx, hi⟩
  · simp at hcs
    obtain ⟨rfl, rfl, rfl⟩ := hcs
    exact ⟨by simp [maxLen], fun _ => (0, 0), fun i hi => absurd hi (by omega)⟩
  · simp at hcs
    obtain ⟨rfl, rfl, rfl⟩ := hcs
    refine ⟨by omega, ?_⟩
    have hlm : len ≤ m := by rw [hmm]; split <;> omega
    have hel : ∀ i, ∃ p : Int × Int, i < len → ∃ b o, (some ad : Option Addr) = some ⟨b, o, none⟩ ∧ b < w.heap.size ∧ w.cell? ⟨b, o + i * 2, none⟩ = some (.int .i64 p.1) ∧ w.cell? ⟨b, o + i * 2 + 1, none⟩ = some (.int .i64 p.2) ∧ -9223372036854775808 ≤ p.2 ∧ p.2 ≤ 9223372036854775807 := by
      intro i
      by_cases hil : i < len
      rotate_left
      · exact ⟨(0, 0), fun h => absurd h hil⟩
      obtain ⟨cs', hc, ht'⟩ := hi i (by omega)
      obtain ⟨cs0, hc0, _⟩ := hi 0 (by omega)
      rw [hC] at hc hc0
      obtain ⟨xs, k, hk, hxx, hlen, hxl, hf⟩ := DataW.trod_array Try.underlying47 ht'
      rw [hC] at hlen
      obtain ⟨_, hcl, hat⟩ := World.cells?_some hc
      obtain ⟨_, hcl0, hat0⟩ := World.cells?_some hc0
      have y0 := hf 0 (by omega)
      have y1 := hf 1 (by omega)
      obtain ⟨u0, u1, rfl⟩ : ∃ u0 u1, cs' = [u0, u1] := by
        match cs', hlen with
        | [u0, u1], _ => exact ⟨u0, u1, rfl⟩
      have hx0 : xs[0]? = some (xs[0]'(by omega)) := List.getElem?_eq_getElem (by omega)
      have hx1 : xs[1]? = some (xs[1]'(by omega)) := List.getElem?_eq_getElem (by omega)
      rw [hC1, hx0] at y0
      rw [hC1, hx1] at y1
      have y0' : DataW.trod enc Try.prog w base spare held k 3 [u0] = some (xs[0]'(by omega)) := y0
      have y1' : DataW.trod enc Try.prog w base spare held k 3 [u1] = some (xs[1]'(by omega)) := y1
      obtain ⟨z0, e0, _, wf0⟩ := DataW.trod_int Try.underlying3 y0'
      obtain ⟨z1, e1, _, wf1⟩ := DataW.trod_int Try.underlying3 y1'
      simp at e0 e1
      subst e0 e1
      have q0 := hat 0 (by omega)
      have q1 := hat 1 (by omega)
      have p0 := hat0 0 (by omega)
      obtain ⟨b, o, spot⟩ := ad
      have hsp : spot = none := by
        have hne : cs0[0]? = some (cs0[0]'(by omega)) := List.getElem?_eq_getElem (by omega)
        rw [hne] at p0
        simpa [Addr.add] using World.cell?_spot p0
      subst hsp
      simp only [add_lit'] at q0 q1
      have hw := wf_i64 wf1
      refine ⟨(z0, z1), fun _ => ⟨b, o, rfl, ?_, by simpa using q0, by simpa using q1, hw.1, hw.2⟩⟩
      exact World.block_lt_of_cell? w ⟨b, o + i * 2, none⟩ (by simpa using q0)
    exact ⟨fun i => (hel i).choose, fun i hi => (hel i).choose_spec hi⟩
end Go.Proofs.Ytdlmhadcaagokaa
