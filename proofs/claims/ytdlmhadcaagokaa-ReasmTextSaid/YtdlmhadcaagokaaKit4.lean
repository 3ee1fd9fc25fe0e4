import Derived.Test.YtdlmhadcaagokaaKit
import Derived.Deep.MidRow
namespace Go.Proofs.Ytdlmhadcaagokaa
open Go.RowKit
section
variable {P : Program} {ops : Array Oper} {rest : List Oper} {op : Oper} {a : Act} {w : World} {Q : Exit → Act → World → Prop}
theorem setCells_size (b : Nat) : ∀ (vs : List Value) (o : Nat) (w : World), (w.setCells b o vs).heap.size = w.heap.size
  | [], _, _ => rfl
  | v :: r, o, w => by rw [World.setCells, setCells_size b r]; simp [World.setCell]
theorem setCells_fr (b : Nat) : ∀ (vs : List Value) (o : Nat) (w : World), Fr [b] w (w.setCells b o vs)
  | [], _, w => Fr.refl _ _
  | v :: r, o, w => by
    rw [World.setCells]
    exact Fr.trans (Fr.setCell (Fr.refl _ _) (by simp) _) (setCells_fr b r (o + 1) _) (by simp)
theorem setCells_blk (b : Nat) (t : TypeId) : ∀ (vs : List Value) (o : Nat) (w : World) (l : List Value), Blk w b t l.toArray → o + vs.length ≤ l.length →
    Blk (w.setCells b o vs) b t (l.take o ++ vs ++ l.drop (o + vs.length)).toArray
  | [], o, w, l, h, _ => by simpa [World.setCells] using h
  | v :: r, o, w, l, h, hl => by
    simp only [List.length_cons] at hl
    rw [World.setCells]
    have h1 := Blk.set_ h o v
    have e1 : l.toArray.setIfInBounds o v = (l.set o v).toArray := by simp
    rw [e1] at h1
    have h2 := setCells_blk b t r (o + 1) _ (l.set o v) h1 (by simp; omega)
    have e2 : (l.set o v).take (o + 1) ++ r ++ (l.set o v).drop (o + 1 + r.length) = l.take o ++ (v :: r) ++ l.drop (o + (v :: r).length) := by
      rw [List.drop_set_of_lt (by omega)]
      rw [show (l.set o v).take (o + 1) = l.take o ++ [v] from by
        rw [List.take_add_one]
        simp [List.take_set_of_le, show o < l.length from by omega]]
      rw [show o + 1 + r.length = o + (v :: r).length from by simp; omega]
      simp
    rw [e2] at h2
    exact h2
theorem gate_store {d : Option Tmp} {t : TypeId} {pos : String} {af : Array Edge} {gd : Option (Nat × Bool)} (ty : TypeId) (x : Operand) {y : Operand} (h : wpList P ops Q (⟨d, .store ty x y, t, pos, af, gd⟩ :: rest) a w) : wpList P ops Q (⟨d, .store ty x y, t, pos, af, gd⟩ :: rest) a w := h
theorem gate_load {d : Option Tmp} {t : TypeId} {pos : String} {af : Array Edge} {gd : Option (Nat × Bool)} (ty : TypeId) (x : Operand) (h : wpList P ops Q (⟨d, .load ty x, t, pos, af, gd⟩ :: rest) a w) : wpList P ops Q (⟨d, .load ty x, t, pos, af, gd⟩ :: rest) a w := h
/-- A whole struct stored into a block that is known whole. -/
theorem wpList_store_blk (hgd : op.guard = none) (ty : TypeId) (x y : Operand) (ho : op.op = .store ty x y) (b : Nat) (t : TypeId) (cs cells : Array Value)
    (hx : a.eval x = .pointer (some ⟨b, 0, none⟩)) (hy : a.eval y = .agg cells) (hB : Blk w b t cs) (hs : cs.size = cells.size) (hi : (P.info? ty).map (·.size) = some cells.size) (h1 : cells.all (·.oneCell') = true)
    (h : ∀ w', Blk w' b t cells → Fr [b] w w' → wpList P ops Q rest (a.put op.dst undef) w') : wpList P ops Q (op :: rest) a w := by
  refine wpList_store_mid hgd ty x y ho b 0 cells hx hy (fun j hj => ?_) hi h1 (h _ ?_ (setCells_fr b _ 0 w))
  · have hc := Blk.cell hB j
    refine ⟨?_, ?_⟩
    · rw [Nat.zero_add, hc]
      simp [show j < cs.size from by omega]
    · rw [Nat.zero_add]
      exact Blk.frozen hB j
  · have := setCells_blk b t cells.toList 0 w cs.toList (by simpa using hB) (by simp; omega)
    have e : cs.toList.take 0 ++ cells.toList ++ cs.toList.drop (0 + cells.toList.length) = cells.toList := by
      rw [List.drop_of_length_le (by simp; omega)]; simp
    rw [e] at this
    simpa using this
/-- A whole struct loaded from a block that is known whole. -/
theorem wpList_load_blk (hgd : op.guard = none) (ty : TypeId) (x : Operand) (ho : op.op = .load ty x) (b : Nat) (t : TypeId) (cs : Array Value) (d : TypeDesc)
    (hx : a.eval x = .pointer (some ⟨b, 0, none⟩)) (hB : Blk w b t cs) (hu : P.underlying ty = some d) (hd : d.isRow = true) (hi : (P.info? ty).map (·.size) = some cs.size)
    (h : wpList P ops Q rest (a.put op.dst (.agg cs)) w) : wpList P ops Q (op :: rest) a w := by
  refine wpList_load_mid hgd ty x ho b 0 hx cs.toList d (fun j v hj => ?_) hu hd (by simpa using hi) (by simpa using h)
  rw [Nat.zero_add, Blk.cell hB j]
  simpa using hj
end
end Go.Proofs.Ytdlmhadcaagokaa
