import Derived.Test.YtdlmhadcaagokaaKit
import Derived.Deep.Slices
namespace Go.Proofs.Ytdlmhadcaagokaa
open Go.RowKit
theorem block_add (a : Addr) (n : Nat) : (a.add n).block = a.block := by unfold Addr.add; split <;> rfl
theorem add_add' (a : Addr) (i j : Nat) : (a.add i).add j = a.add (i + j) := by
  unfold Addr.add
  by_cases hi : i = 0 <;> by_cases hj : j = 0 <;> simp [hi, hj, Nat.add_assoc]

/-- The slice with address A and n elements of one cell reads as f; it lies below block B. -/
def Reads (w : World) (B : Nat) (A : Option Addr) (n : Nat) (f : Nat → Value) : Prop :=
  ∀ k, k < n → ∃ ad, A = some ad ∧ ad.block < B ∧ w.cell? (ad.add k) = some (f k)
theorem Reads.fr {w w' : World} {B : Nat} {A : Option Addr} {n : Nat} {f : Nat → Value} {O : List Nat} (h : Reads w B A n f) (hf : Fr O w w') (hB : B ≤ w.heap.size) (hO : ∀ x ∈ O, B ≤ x) : Reads w' B A n f := by
  intro k hk
  obtain ⟨ad, e, hb, hc⟩ := h k hk
  refine ⟨ad, e, hb, ?_⟩
  rw [hf.cell (by rw [block_add]; omega) (by rw [block_add]; intro hm; have := hO _ hm; omega)]
  exact hc

section
variable {H : Type} {enc : TypeId × Value → H} {P : Program} {w : World} {base : Nat} {spare : Nat → Bool} {held : Bool}
theorem lt_of_trod_slice {a : Addr} {v : Value} (hc : w.cell? a = some v) : a.block < w.heap.size := World.block_lt_of_cell? w a hc
theorem reads_ints {t e : TypeId} {k : IntKind} {fuel : Nat} {a : Option Addr} {len cap : Nat} {x : DataW H × List MemPlace} (ht : P.underlying t = some (.slice e)) (he : P.underlying e = some (.int k)) (hc : P.cellsOf e = 1)
    (h : DataW.trod enc P w base spare held fuel t [.slice a len cap] = some x) :
    ∃ zs : Nat → Int, Reads w w.heap.size a len (fun i => .int k (zs i)) ∧ (∀ i, i < len → (Lit.int k (zs i)).wf = true) ∧ len ≤ maxLen := by
  rcases Go.Deep.open_slice1 ht hc h with ⟨hcs, _⟩ | ⟨x, l, c, m, n, V, D, Pl, hcs, _, hl, hm, hmm, _, hcell⟩
  · simp at hcs
    obtain ⟨rfl, rfl, rfl⟩ := hcs
    exact ⟨fun _ => 0, fun k hk => absurd hk (by omega), fun k hk => absurd hk (by omega), by simp [maxLen]⟩
  · simp at hcs
    obtain ⟨rfl, rfl, rfl⟩ := hcs
    have hlm : len ≤ m := by rw [hmm]; split <;> omega
    refine ⟨fun i => match V i with | .int _ q => q | _ => 0, fun i hi => ?_, fun i hi => ?_, by omega⟩
    · obtain ⟨h1, h2⟩ := hcell i (by omega)
      obtain ⟨q, hq, _, hw⟩ := DataW.trod_int he h2
      simp at hq
      refine ⟨x, rfl, ?_, ?_⟩
      · have := World.block_lt_of_cell? w _ h1
        rwa [block_add] at this
      · dsimp only
        rw [h1, hq]
    · obtain ⟨h1, h2⟩ := hcell i (by omega)
      obtain ⟨q, hq, _, hw⟩ := DataW.trod_int he h2
      simp at hq
      dsimp only
      rw [hq]
      exact hw
theorem reads_bools {t e : TypeId} {fuel : Nat} {a : Option Addr} {len cap : Nat} {x : DataW H × List MemPlace} (ht : P.underlying t = some (.slice e)) (he : P.underlying e = some .bool) (hc : P.cellsOf e = 1)
    (h : DataW.trod enc P w base spare held fuel t [.slice a len cap] = some x) :
    ∃ bs : Nat → Bool, Reads w w.heap.size a len (fun i => .bool (bs i)) ∧ len ≤ maxLen := by
  rcases Go.Deep.open_slice1 ht hc h with ⟨hcs, _⟩ | ⟨x, l, c, m, n, V, D, Pl, hcs, _, hl, hm, hmm, _, hcell⟩
  · simp at hcs
    obtain ⟨rfl, rfl, rfl⟩ := hcs
    exact ⟨fun _ => false, fun k hk => absurd hk (by omega), by simp [maxLen]⟩
  · simp at hcs
    obtain ⟨rfl, rfl, rfl⟩ := hcs
    have hlm : len ≤ m := by rw [hmm]; split <;> omega
    refine ⟨fun i => match V i with | .bool q => q | _ => false, fun i hi => ?_, by omega⟩
    obtain ⟨h1, h2⟩ := hcell i (by omega)
    obtain ⟨q, hq, _⟩ := DataW.trod_bool he h2
    simp at hq
    refine ⟨x, rfl, ?_, ?_⟩
    · have := World.block_lt_of_cell? w _ h1
      rwa [block_add] at this
    · dsimp only
      rw [h1, hq]
end

end Go.Proofs.Ytdlmhadcaagokaa
