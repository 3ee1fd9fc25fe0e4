/-
  What a heap is in memory: its block, the row of its pieces, their bytes.
-/
import Derived.Test.YtdlmhadcaagokaaProg
import Derived.Test.YtdlmhadcaagokaaV
import Derived.Test.YtdlmhadcaagokaaKit5
import Derived.Lib.Hide
namespace Go.Proofs.Ytdlmhadcaagokaa
open Go.RowKit

abbrev ptr (g : Nat) : Value := .pointer (some ⟨g, 0, none⟩)
/-- The cells of a row of pieces: each one's place and its bytes' slice. -/
def pcs : List (Pc × Value) → List Value
  | [] => []
  | x :: L => .int .i64 x.1.at_ :: x.2 :: pcs L
theorem pcs_len : ∀ L, (pcs L).length = L.length * 2
  | [] => rfl
  | x :: L => by simp only [pcs, List.length_cons, pcs_len L]; omega
theorem pcs_app : ∀ L M, pcs L ++ pcs M = pcs (L ++ M)
  | [], _ => rfl
  | x :: L, M => by simp only [pcs, List.cons_append, pcs_app L M]
theorem pcs_take : ∀ (L : List (Pc × Value)) k, (pcs L).take (k * 2) = pcs (L.take k)
  | [], k => by simp [pcs]
  | x :: L, 0 => by simp [pcs]
  | x :: L, k + 1 => by
    rw [show (k + 1) * 2 = k * 2 + 1 + 1 by omega]
    simp only [pcs, List.take_succ_cons, pcs_take L k]
theorem pcs_drop : ∀ (L : List (Pc × Value)) k, (pcs L).drop (k * 2) = pcs (L.drop k)
  | [], k => by simp [pcs]
  | x :: L, 0 => by simp [pcs]
  | x :: L, k + 1 => by
    rw [show (k + 1) * 2 = k * 2 + 1 + 1 by omega]
    simp only [pcs, List.drop_succ_cons, pcs_drop L k]
theorem pcs_at : ∀ (L : List (Pc × Value)) k (x : Pc × Value), L[k]? = some x → (pcs L)[k * 2]? = some (.int .i64 x.1.at_) ∧ (pcs L)[k * 2 + 1]? = some x.2
  | [], k, x, h => by simp at h
  | y :: L, 0, x, h => by
    simp at h
    subst h
    exact ⟨rfl, rfl⟩
  | y :: L, k + 1, x, h => by
    simp at h
    rw [show (k + 1) * 2 = k * 2 + 1 + 1 by omega, show k * 2 + 1 + 1 + 1 = (k * 2 + 1) + 1 + 1 by omega]
    simp only [pcs, List.getElem?_cons_succ]
    exact pcs_at L k x h
theorem pcs_one : ∀ L : List (Pc × Value), (∀ x ∈ L, x.2.oneCell' = true) → ∀ u ∈ pcs L, u.oneCell' = true
  | [], _, u, hu => by simp [pcs] at hu
  | y :: L, h, u, hu => by
    simp only [pcs, List.mem_cons] at hu
    rcases hu with rfl | rfl | hu
    · rfl
    · exact h _ (List.mem_cons_self ..)
    · exact pcs_one L (fun x hx => h x (List.mem_cons_of_mem _ hx)) u hu

/-- A row of pieces, of element type e. -/
structure Kp (e : TypeId) (S : Nat → Prop) (w : World) (kv : Value) (L : List (Pc × Value)) : Prop where
  own : w.ownsRow 0 e 2 kv L.length (pcs L)
  byt : ∀ x ∈ L, Byt S w x.2 x.1.d
section
variable {e : TypeId} {S S' : Nat → Prop} {w w' : World} {kv : Value} {L : List (Pc × Value)} {O : List Nat}
theorem Byt.one {v : Value} {l : List Int} (h : Byt S w v l) : v.oneCell' = true := by
  obtain ⟨A, c, rfl, _⟩ := h.form
  rfl
theorem Kp.fr (h : Kp e S w kv L) (hf : Fr O w w') (hO : ∀ x ∈ O, ¬ S x) (hk : ∀ b, kv.ownBlock = some b → b ∉ O) : Kp e S w' kv L :=
  ⟨own_fr h.own hf hk, fun x hx => (h.byt x hx).fr hf hO⟩
theorem Kp.mono (h : Kp e S w kv L) (hS : ∀ b, S b → S' b) : Kp e S' w kv L := ⟨h.own, fun x hx => (h.byt x hx).mono hS⟩
theorem Kp.at_ (h : Kp e S w kv L) {k : Nat} (hk : k < L.length) : ∃ b c x, kv = .slice (some ⟨b, 0, none⟩) L.length c ∧ L[k]? = some x ∧ w.cell? ⟨b, k * 2, none⟩ = some (.int .i64 x.1.at_) ∧ w.cell? ⟨b, k * 2 + 1, none⟩ = some x.2 ∧ Byt S w x.2 x.1.d := by
  have hs := Sl.of_own (S := fun _ => True) h.own (fun _ _ => trivial)
  rcases h.own.2 with ⟨rfl, h0⟩ | ⟨g, cap, cur, rfl, _, hg, _⟩
  · omega
  · have hx : L[k]? = some L[k] := List.getElem?_eq_getElem hk
    obtain ⟨h1, h2⟩ := pcs_at L k _ hx
    obtain ⟨_, A, c', hv, _, _, hu⟩ := hs
    obtain ⟨b, o, hA, _, hc⟩ := hu (by omega)
    subst hA
    injection hv with hv _ _
    injection hv with hv
    injection hv with hb ho _
    subst hb ho
    refine ⟨g, cap, L[k], rfl, hx, ?_, ?_, h.byt _ (List.getElem_mem hk)⟩
    · have := hc _ _ h1; rwa [Nat.zero_add] at this
    · have := hc _ _ h2; rwa [Nat.zero_add] at this
theorem Kp.form (h : Kp e S w kv L) : ∃ A c, kv = .slice A L.length c ∧ L.length ≤ c ∧ c ≤ maxLen := own_form h.own
theorem Kp.one (h : Kp e S w kv L) : ∀ u ∈ pcs L, u.oneCell' = true := pcs_one L fun x hx => (h.byt x hx).one
end

/-- A heap in memory: its block g, the row kv of its pieces, the end's pointer ev. -/
structure HPx (S : Nat → Prop) (w : World) (g : Nat) (kv ev : Value) (h : Hp) (L : List (Pc × Value)) : Prop where
  blk : Blk w g 58 #[.int .i64 h.most, .int .i64 h.next, kv, ev, .bool true]
  kp : Kp 67 S w kv L
  kept : h.kept = L.map (·.1)
  fin : (h.fin = none ∧ ev = .pointer none) ∨ ∃ a b, h.fin = some a ∧ ev = ptr b ∧ S b ∧ w.cell? ⟨b, 0, none⟩ = some (.int .i64 a)
  pub : ∀ b, S b → b < w.heap.size
  offg : ¬ S g
  offk : ∀ b, kv.ownBlock = some b → ¬ S b
def HP (S : Nat → Prop) (w : World) (g : Nat) (kv : Value) (h : Hp) : Prop := ∃ ev L, HPx S w g kv ev h L
/-- One that is not there. -/
def Hz (w : World) (g : Nat) : Prop := Blk w g 58 #[.int .i64 0, .int .i64 0, .slice none 0 0, .pointer none, .bool false]

section
variable {S S' : Nat → Prop} {w w' : World} {g : Nat} {kv ev : Value} {h : Hp} {L : List (Pc × Value)} {O : List Nat}
theorem HPx.fr (m : HPx S w g kv ev h L) (f : Fr O w w') (hO : ∀ x ∈ O, ¬ S x) (hg : g ∉ O) (hk : ∀ b, kv.ownBlock = some b → b ∉ O) : HPx S w' g kv ev h L := by
  refine ⟨m.blk.fr f hg, m.kp.fr f hO hk, m.kept, ?_, fun b hb => Nat.lt_of_lt_of_le (m.pub b hb) f.size, m.offg, m.offk⟩
  rcases m.fin with h1 | ⟨a, b, h1, h2, h3, h4⟩
  · exact .inl h1
  · exact .inr ⟨a, b, h1, h2, h3, (f.cell (p := ⟨b, 0, none⟩) (m.pub b h3) (fun hm => hO b hm h3)).trans h4⟩
theorem HPx.ext (m : HPx S w g kv ev h L) (f : Fr O w w') (x : Ext w S S') (hO : ∀ x ∈ O, ¬ S x) (hg : g ∉ O) (hk : ∀ b, kv.ownBlock = some b → b ∉ O) (hp : ∀ b, S' b → b < w'.heap.size) : HPx S' w' g kv ev h L := by
  have n := m.fr f hO hg hk
  refine ⟨n.blk, n.kp.mono x.1, n.kept, ?_, hp, x.off m.blk.lt m.offg, fun b hb => x.off (own_lt m.kp.own hb) (m.offk b hb)⟩
  rcases n.fin with h1 | ⟨a, b, h1, h2, h3, h4⟩
  · exact .inl h1
  · exact .inr ⟨a, b, h1, h2, x.1 b h3, h4⟩
theorem HPx.len (m : HPx S w g kv ev h L) : h.kept.length = L.length := by rw [m.kept, List.length_map]
theorem HPx.cells (m : HPx S w g kv ev h L) : w.cell? ⟨g, 0, none⟩ = some (.int .i64 h.most) ∧ w.cell? ⟨g, 1, none⟩ = some (.int .i64 h.next) ∧ w.cell? ⟨g, 2, none⟩ = some kv ∧ w.cell? ⟨g, 3, none⟩ = some ev ∧ w.cell? ⟨g, 4, none⟩ = some (.bool true) :=
  ⟨by simpa using m.blk.cell 0, by simpa using m.blk.cell 1, by simpa using m.blk.cell 2, by simpa using m.blk.cell 3, by simpa using m.blk.cell 4⟩
theorem HPx.get (m : HPx S w g kv ev h L) {k : Nat} {x : Pc × Value} (hx : L[k]? = some x) : h.kept.getD k default = x.1 := by
  rw [m.kept, List.getD_eq_getElem?_getD, List.getElem?_map, hx]; rfl
end
end Go.Proofs.Ytdlmhadcaagokaa
