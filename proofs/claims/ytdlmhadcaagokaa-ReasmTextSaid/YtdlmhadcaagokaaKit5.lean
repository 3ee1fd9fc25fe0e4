import Derived.Test.YtdlmhadcaagokaaKit
import Derived.Test.YtdlmhadcaagokaaKit2
import Derived.Test.YtdlmhadcaagokaaKit4
import Derived.Maps.AppendAt
import Derived.Deep.AppendLies
import Derived.RegionTactic
import Derived.OwnWalk
import Derived.Laws.BytesArg
import Derived.Deep.Quiet
namespace Go.Proofs.Ytdlmhadcaagokaa
open Go.RowKit

/-! ### Worlds of which nothing old has turned: the class of a drawn region -/
structure Grew (w : World) where
  W : World
  fr : Fr [] w W
instance (w : World) : Inhabited (Grew w) := ⟨⟨w, Fr.refl [] w⟩⟩
theorem Grew.cell {w : World} {a : Addr} {v : Value} (h : w.cell? a = some v) (p : Grew w) : p.W.cell? a = some v :=
  (p.fr.cell (World.block_lt_of_cell? w a h) (by simp)).trans h
theorem wpQuiet_mono {P : Program} {ops : Array Oper} {C : World → Prop} {Q Q' : Act → Prop} (h : ∀ a, Q a → Q' a) : ∀ (l : List Oper) (a : Act), wpQuiet P ops C Q l a → wpQuiet P ops C Q' l a
  | [], a, hh => h a hh
  | o :: rest, a, hh => by
    unfold wpQuiet at hh ⊢
    split
    · rename_i hw
      rw [if_pos hw] at hh
      exact Oper.quiet_mono (fun a' => wpQuiet_mono h rest a') hh
    · rename_i hw
      rw [if_neg hw] at hh
      exact wpQuiet_mono h rest _ hh
theorem wp_region_grew {P : Program} {id : Nat} {Q : Exit → Act → World → Prop} {a : Act} {w : World} {l : List Oper} (hm : P.follows .mixedOrders = true) (hB : Region.lexB .any l.toArray = true)
    (h : wpQuiet P l.toArray (fun w' => ∃ p : Grew w, w' = p.W) (fun a' => ∀ w', Fr [] w w' → Q .normal a' w') l a) : (Code.region id l.toArray true).wp P Q a w :=
  wp_mono (wp_region_quiet (Q := fun e a w' => ∃ f : Fr [] w w', ∀ (_ : Fr [] w w'), Q e a w') (C := fun w' => ∃ p : Grew w, w' = p.W) hm hB ⟨⟨_, (Fr.refl [] w).drew⟩, rfl⟩ (by
    refine wpQuiet_mono (fun a' (ha : ∀ w', Fr [] w w' → Q .normal a' w') w' hw' => ?_) _ _ (by simpa using h)
    obtain ⟨p, rfl⟩ := hw'
    exact ⟨p.fr, fun f => ha _ f⟩)) (fun e a w' ⟨f, h⟩ => h f)
theorem grew_call {P : Program} {f : FuncId} {args : Array Value} {w : World} {p : Grew w} {v : Value}
    (h : Calls P f args p.W fun e w' => e = .returned v ∧ Fr [] p.W w') : Calls P f args p.W fun e w'' => e = .returned v ∧ ∃ q : Grew w, w'' = q.W :=
  h.mono fun _ _ ⟨he, hf⟩ => ⟨he, ⟨_, p.fr.trans hf (by simp)⟩, rfl⟩
theorem grew_same {P : Program} {f : FuncId} {args : Array Value} {w : World} {p : Grew w} {v : Value}
    (h : Calls P f args p.W fun e w' => e = .returned v ∧ p.W = w') : Calls P f args p.W fun e w'' => e = .returned v ∧ ∃ q : Grew w, w'' = q.W :=
  h.mono fun _ _ ⟨he, hf⟩ => ⟨he, p, hf.symm⟩

/-! ### Slices that are read -/
/-- A slice whose elements (size cells each) read as xs; it lies in a block of S. -/
def Sl (S : Nat → Prop) (w : World) (size : Nat) (v : Value) (n : Nat) (xs : List Value) : Prop :=
  xs.length = n * size ∧ ∃ A c, v = .slice A n c ∧ n ≤ c ∧ c ≤ maxLen ∧ (0 < n → ∃ b o, A = some ⟨b, o, none⟩ ∧ S b ∧ ∀ j u, xs[j]? = some u → w.cell? ⟨b, o + j, none⟩ = some u)
/-- The blocks that a slice value writes to. -/
def ob (v : Value) : List Nat := v.ownBlock.toList
theorem mem_ob {v : Value} {b : Nat} : b ∈ ob v ↔ v.ownBlock = some b := by unfold ob; cases v.ownBlock <;> simp [eq_comm]

section
variable {S S' : Nat → Prop} {w w' : World} {size n : Nat} {v : Value} {xs : List Value} {O : List Nat}
theorem Sl.fr (h : Sl S w size v n xs) (hf : Fr O w w') (hO : ∀ x ∈ O, ¬ S x) : Sl S w' size v n xs := by
  obtain ⟨hl, A, c, hv, hn, hc, hx⟩ := h
  refine ⟨hl, A, c, hv, hn, hc, fun h0 => ?_⟩
  obtain ⟨b, o, hA, hb, hu⟩ := hx h0
  exact ⟨b, o, hA, hb, fun j u hj => (hf.cell (p := ⟨b, o + j, none⟩) (World.block_lt_of_cell? w _ (hu j u hj)) (fun hm => hO _ hm hb)).trans (hu j u hj)⟩
theorem Sl.mono (h : Sl S w size v n xs) (hS : ∀ b, S b → S' b) : Sl S' w size v n xs := by
  obtain ⟨hl, A, c, hv, hn, hc, hx⟩ := h
  refine ⟨hl, A, c, hv, hn, hc, fun h0 => ?_⟩
  obtain ⟨b, o, hA, hb, hu⟩ := hx h0
  exact ⟨b, o, hA, hS b hb, hu⟩
theorem Sl.nil : Sl S w size (.slice none 0 0) 0 [] := ⟨by simp, none, 0, rfl, Nat.le_refl _, by simp [maxLen], fun h => absurd h (by omega)⟩
theorem Sl.none_ {c : Nat} (h : Sl S w size (.slice none n c) n xs) : n = 0 ∧ xs = [] := by
  obtain ⟨hl, A, c', hv, hn, hc, hx⟩ := h
  injection hv with hA _ _
  rcases Nat.eq_zero_or_pos n with h0 | h0
  · subst h0
    exact ⟨rfl, List.eq_nil_of_length_eq_zero (by simpa using hl)⟩
  · obtain ⟨b, o, hA', _⟩ := hx h0
    rw [← hA] at hA'
    cases hA'
theorem Sl.form (h : Sl S w size v n xs) : ∃ A c, v = .slice A n c ∧ n ≤ c ∧ c ≤ maxLen := by
  obtain ⟨_, A, c, hv, hn, hc, _⟩ := h
  exact ⟨A, c, hv, hn, hc⟩
theorem Sl.cut {A : Option Addr} {c k : Nat} (h : Sl S w size (.slice A n c) n xs) (hk : k ≤ n) :
    Sl S w size (.slice (if c = k then A else A.map (·.add (k * size))) (n - k) (c - k)) (n - k) (xs.drop (k * size)) := by
  obtain ⟨hl, A', c', hv, hn, hc, hx⟩ := h
  injection hv with hA _ hcc
  subst hA hcc
  refine ⟨by rw [List.length_drop, hl, Nat.sub_mul], _, _, rfl, by omega, by omega, fun h0 => ?_⟩
  obtain ⟨b, o, rfl, hb, hu⟩ := hx (by omega)
  rw [if_neg (by omega)]
  refine ⟨b, o + k * size, ?_, hb, fun j u hj => ?_⟩
  · simp only [Option.map_some]
    unfold Addr.add
    split
    · rename_i h; rw [h]; rfl
    · rfl
  · rw [Nat.add_assoc]
    exact hu _ u (by rw [← hj, List.getElem?_drop])
theorem Sl.take {A : Option Addr} {c k : Nat} (h : Sl S w size (.slice A n c) n xs) (hk : k ≤ n) : Sl S w size (.slice A k c) k (xs.take (k * size)) := by
  obtain ⟨hl, A', c', hv, hn, hc, hx⟩ := h
  injection hv with hA _ hcc
  subst hA hcc
  refine ⟨by rw [List.length_take, hl]; exact Nat.min_eq_left (Nat.mul_le_mul_right _ hk), _, _, rfl, by omega, hc, fun h0 => ?_⟩
  obtain ⟨b, o, rfl, hb, hu⟩ := hx (by omega)
  refine ⟨b, o, rfl, hb, fun j u hj => hu _ u ?_⟩
  rw [List.getElem?_take] at hj
  split at hj
  · exact hj
  · cases hj
theorem Sl.of_own {e : TypeId} (h : w.ownsRow 0 e size v n xs) (hS : ∀ b, v.ownBlock = some b → S b) : Sl S w size v n xs := by
  refine ⟨h.1, ?_⟩
  rcases h.2 with ⟨rfl, rfl⟩ | ⟨g, cap, cur, rfl, _, hg, hnc, hcm, hcs, htake⟩
  · exact ⟨none, 0, rfl, Nat.le_refl _, by simp [maxLen], fun h => absurd h (by omega)⟩
  · refine ⟨_, _, rfl, hnc, hcm, fun h0 => ⟨g, 0, rfl, hS g rfl, fun j u hj => ?_⟩⟩
    rw [Nat.zero_add, cell_of_row w g j cur e (0, 0) hg, ← Array.getElem?_toList]
    rw [← htake, List.getElem?_take] at hj
    split at hj
    · exact hj
    · cases hj
theorem own_fr {base : Nat} {e : TypeId} (h : w.ownsRow base e size v n xs) (hf : Fr O w w') (hO : ∀ b, v.ownBlock = some b → b ∉ O) : w'.ownsRow base e size v n xs := by
  refine ⟨h.1, ?_⟩
  rcases h.2 with hn | ⟨g, cap, cur, rfl, hb, hgg, rest⟩
  · exact .inl hn
  · exact .inr ⟨g, cap, cur, rfl, hb, (hf.block g (Array.getElem?_eq_some_iff.1 hgg).1 (hO g rfl)).trans hgg, rest⟩
theorem own_form {base : Nat} {e : TypeId} (h : w.ownsRow base e size v n xs) : ∃ A c, v = .slice A n c ∧ n ≤ c ∧ c ≤ maxLen := by
  rcases h.2 with ⟨rfl, rfl⟩ | ⟨g, cap, cur, rfl, hb, hgg, h1, h2, _⟩
  · exact ⟨none, 0, rfl, Nat.le_refl _, by simp [maxLen]⟩
  · exact ⟨_, _, rfl, h1, h2⟩
theorem own_lt {base : Nat} {e : TypeId} (h : w.ownsRow base e size v n xs) {b : Nat} (hb : v.ownBlock = some b) : b < w.heap.size := (h.lt b hb).2
/-- Rows of one type lie apart from blocks of another. -/
theorem own_ne {base : Nat} {e t : TypeId} {cs : Array Value} {g : Nat} (h : w.ownsRow base e size v n xs) (hg : Blk w g t cs) (hne : e ≠ t) : v.ownBlock ≠ some g := by
  rcases h.2 with ⟨rfl, _⟩ | ⟨g', cap, cur, rfl, _, hh, _⟩
  · simp [Value.ownBlock]
  · intro he
    obtain rfl : g' = g := by simpa [Value.ownBlock] using he
    unfold Blk at hg
    rw [hh] at hg
    injection hg with hg
    injection hg with _ ht
    exact hne ht
theorem own_ne2 {base base' : Nat} {e t : TypeId} {m size' : Nat} {v' : Value} {ys : List Value} (h : w.ownsRow base e size v n xs) (h' : w.ownsRow base' t size' v' m ys) (hne : e ≠ t) {b : Nat} (hb : v.ownBlock = some b) : v'.ownBlock ≠ some b := by
  rcases h.2 with ⟨rfl, _⟩ | ⟨g, cap, cur, rfl, _, hh, _⟩
  · simp [Value.ownBlock] at hb
  · obtain rfl : g = b := by simpa [Value.ownBlock] using hb
    exact own_ne h' (g := g) (cs := cur) hh (fun e => hne e.symm)
theorem blk_ne {g g' : Nat} {t t' : TypeId} {cs cs' : Array Value} (h : Blk w g t cs) (h' : Blk w g' t' cs') (hne : t ≠ t') : g ≠ g' := by
  rintro rfl
  unfold Blk at h h'
  rw [h] at h'
  injection h' with h'
  injection h' with _ ht
  exact hne ht
end

/-! ### append -/
section
variable {P : Program} (w : World)
theorem run_append_sl (t ty e : TypeId) (i : TypeInfo) (z : Value) (size bytes : Nat) (ht : P.underlying t = some (.slice e)) (hi : P.info? e = some i) (hz : i.zero = some z)
    (hsize : i.size = size) (hby : i.bytes = bytes) (hzs : z.cells.size = size) (hsz : 0 < size)
    (v : Value) (n : Nat) (xs : List Value) (hown : w.ownsRow 0 e size v n xs)
    (S : Nat → Prop) (s : Value) (m : Nat) (news : List Value) (hr : Sl S w size s m news) (h1 : ∀ u ∈ news, u.oneCell' = true)
    (h63 : n + m ≤ maxLen) (hbytes : (n + m) * bytes ≤ 140737488355328) :
    ∃ A c w', (Builtin.append_ #[t, t] ty #[v, s]).run P w = .ok (.slice A (n + m) c) w' ∧ w'.ownsRow 0 e size (.slice A (n + m) c) (n + m) (xs ++ news) ∧ Fr (ob v) w w' ∧
      (∀ b, (Value.slice A (n + m) c).ownBlock = some b → v.ownBlock = some b ∨ (w.heap.size ≤ b ∧ b < w'.heap.size)) := by
  obtain ⟨hl, As, cs, rfl, hmc, hcm, hx⟩ := hr
  rcases Nat.eq_zero_or_pos m with h0 | h0
  · subst h0
    have hn : news = [] := List.eq_nil_of_length_eq_zero (by simpa using hl)
    subst hn
    rcases hown.2 with ⟨rfl, rfl⟩ | ⟨g, cap, cur, rfl, hb, hg, hnc, hr⟩
    · refine ⟨none, 0, w, ?_, by simpa using hown, (Fr.refl _ _), fun b hb => .inl hb⟩
      cases As with
      | none => simp [Builtin.append_, run_underlying ht, sizeOf, typeInfo, hi, Builtin.lenOf, Builtin.firstCells]
      | some ad => simp [Builtin.append_, run_underlying ht, sizeOf, typeInfo, hi, Builtin.lenOf, Builtin.firstCells, loadCells, loadCellsFrom]
    · refine ⟨_, cap, w, ?_, by simpa using hown, (Fr.refl _ _), fun b hb => .inl hb⟩
      cases As with
      | none => simp [Builtin.append_, run_underlying ht, sizeOf, typeInfo, hi, Builtin.lenOf, Builtin.firstCells, hnc, storeCells]
      | some ad => simp [Builtin.append_, run_underlying ht, sizeOf, typeInfo, hi, Builtin.lenOf, Builtin.firstCells, hnc, storeCells, loadCells, loadCellsFrom]
  · obtain ⟨b, o, rfl, hb, hu⟩ := hx h0
    have hcells : ∀ j u, news[j]? = some u → w.cell? ((⟨b, o, none⟩ : Addr).add j) = some u := fun j u hj => by
      have : (⟨b, o, none⟩ : Addr).add j = ⟨b, o + j, none⟩ := by unfold Addr.add; split <;> simp_all
      rw [this]; exact hu j u hj
    obtain ⟨g, cap, w', hr, h2, h3, h4, h5⟩ := run_append_lies (P := P) w t ty 0 e i z size bytes ht hi hz hsize hby hzs hsz v n xs hown ⟨b, o, none⟩ m cs news hl hcells h1 h0 h63 hbytes (Nat.zero_le _) w.heap.size rfl
    refine ⟨_, cap, w', hr, h2, ⟨h3.os, h3.tape, h3.output, h3.size, fun k hk hn => h3.block k hk (fun e => hn (mem_ob.2 e.symm))⟩, fun b' hb' => ?_⟩
    have : g = b' := by simpa [Value.ownBlock] using hb'
    subst this
    rcases h4 with h4 | h4
    · exact .inl h4
    · exact .inr ⟨by omega, h5⟩

theorem wp_append_sl {o : Oper} {a : Act} {K : Act → World → Prop} {Q : Exit → Act → World → Prop} (d x : Operand) (t : TypeId)
    (ho : o.op = .call { callee := .builtin .append, args := #[d, x], argTypes := #[t, t] })
    (e : TypeId) (i : TypeInfo) (z : Value) (size bytes : Nat) (ht : P.underlying t = some (.slice e)) (hi : P.info? e = some i) (hz : i.zero = some z)
    (hsize : i.size = size) (hby : i.bytes = bytes) (hzs : z.cells.size = size) (hsz : 0 < size)
    (v : Value) (n : Nat) (xs : List Value) (hd : a.eval d = v) (hown : w.ownsRow 0 e size v n xs)
    (S : Nat → Prop) (s : Value) (m : Nat) (news : List Value) (hx : a.eval x = s) (hr : Sl S w size s m news) (h1 : ∀ u ∈ news, u.oneCell' = true)
    (h63 : n + m ≤ maxLen) (hbytes : (n + m) * bytes ≤ 140737488355328) (N : Nat) (hN : n + m = N)
    (h : ∀ A c w', w'.ownsRow 0 e size (.slice A N c) N (xs ++ news) → Fr (ob v) w w' → (∀ b, (Value.slice A N c).ownBlock = some b → v.ownBlock = some b ∨ (w.heap.size ≤ b ∧ b < w'.heap.size)) → K (a.put o.dst (.slice A N c)) w') : o.wp P a w K Q := by
  subst hN
  obtain ⟨A, c, w', hrun, h2, h3, h4⟩ := run_append_sl (P := P) w t o.type e i z size bytes ht hi hz hsize hby hzs hsz v n xs hown S s m news hr h1 h63 hbytes
  unfold Oper.wp execOp
  simp only [ho, resolve, invoke, builtin, Sem.run_bind, Sem.run_pure, Result.andThen_ok, List.map_toArray, List.map_cons, List.map_nil, hd, hx, hrun]
  exact h A c w' h2 h3 h4

theorem wpList_append_sl {ops : Array Oper} {rest : List Oper} {o : Oper} {a : Act} {Q : Exit → Act → World → Prop} (hgd : o.guard = none) (d x : Operand) (t : TypeId)
    (ho : o.op = .call { callee := .builtin .append, args := #[d, x], argTypes := #[t, t] })
    (e : TypeId) (i : TypeInfo) (z : Value) (size bytes : Nat) (ht : P.underlying t = some (.slice e)) (hi : P.info? e = some i) (hz : i.zero = some z)
    (hsize : i.size = size) (hby : i.bytes = bytes) (hzs : z.cells.size = size) (hsz : 0 < size)
    (v : Value) (n : Nat) (xs : List Value) (hd : a.eval d = v) (hown : w.ownsRow 0 e size v n xs)
    (S : Nat → Prop) (s : Value) (m : Nat) (news : List Value) (hx : a.eval x = s) (hr : Sl S w size s m news) (h1 : ∀ u ∈ news, u.oneCell' = true)
    (h63 : n + m ≤ maxLen) (hbytes : (n + m) * bytes ≤ 140737488355328) (N : Nat) (hN : n + m = N)
    (h : ∀ A c w', w'.ownsRow 0 e size (.slice A N c) N (xs ++ news) → Fr (ob v) w w' → (∀ b, (Value.slice A N c).ownBlock = some b → v.ownBlock = some b ∨ (w.heap.size ≤ b ∧ b < w'.heap.size)) → wpList P ops Q rest (a.put o.dst (.slice A N c)) w') : wpList P ops Q (o :: rest) a w :=
  wpList_plain hgd fun _ hK => wp_append_sl w d x t ho e i z size bytes ht hi hz hsize hby hzs hsz v n xs hd hown S s m news hx hr h1 h63 hbytes N hN fun A c w' h2 h3 h4 => hK _ _ (h A c w' h2 h3 h4)

theorem step_append_sl {ops : Array Oper} {o : Oper} {a : Act} {K : Act → World → Prop} {Q : Exit → Act → World → Prop} {E : Prop} (hgd : o.guard = none) (d x : Operand) (t : TypeId)
    (ho : o.op = .call { callee := .builtin .append, args := #[d, x], argTypes := #[t, t] })
    (e : TypeId) (i : TypeInfo) (z : Value) (size bytes : Nat) (ht : P.underlying t = some (.slice e)) (hi : P.info? e = some i) (hz : i.zero = some z)
    (hsize : i.size = size) (hby : i.bytes = bytes) (hzs : z.cells.size = size) (hsz : 0 < size)
    (v : Value) (n : Nat) (xs : List Value) (hd : a.eval d = v) (hown : w.ownsRow 0 e size v n xs)
    (S : Nat → Prop) (s : Value) (m : Nat) (news : List Value) (hx : a.eval x = s) (hr : Sl S w size s m news) (h1 : ∀ u ∈ news, u.oneCell' = true)
    (h63 : n + m ≤ maxLen) (hbytes : (n + m) * bytes ≤ 140737488355328) (N : Nat) (hN : n + m = N)
    (h : ∀ A c w', w'.ownsRow 0 e size (.slice A N c) N (xs ++ news) → Fr (ob v) w w' → (∀ b, (Value.slice A N c).ownBlock = some b → v.ownBlock = some b ∨ (w.heap.size ≤ b ∧ b < w'.heap.size)) → K (a.put o.dst (.slice A N c)) w') :
    if Region.wanted o (yielded ops a.tmps) = true then Oper.wp P o a w K Q else E := by
  have hw : Region.wanted o (yielded ops a.tmps) = true := by simp [Region.wanted, hgd]
  rw [if_pos hw]
  exact wp_append_sl w d x t ho e i z size bytes ht hi hz hsize hby hzs hsz v n xs hd hown S s m news hx hr h1 h63 hbytes N hN h
end

/-! ### Bytes -/
def byts (l : List Int) : List Value := l.map (Value.int .u8)
def Byt (S : Nat → Prop) (w : World) (v : Value) (l : List Int) : Prop := Sl S w 1 v l.length (byts l)
theorem byts_one (l : List Int) : ∀ u ∈ byts l, u.oneCell' = true := by
  intro u hu
  obtain ⟨x, _, rfl⟩ := List.mem_map.1 hu
  rfl
theorem byts_app (l m : List Int) : byts l ++ byts m = byts (l ++ m) := by simp [byts]
theorem byts_drop (l : List Int) (k : Nat) : (byts l).drop k = byts (l.drop k) := by simp [byts]
theorem byts_take (l : List Int) (k : Nat) : (byts l).take k = byts (l.take k) := by simp [byts]
section
variable {S S' : Nat → Prop} {w w' : World} {v : Value} {l : List Int} {O : List Nat}
theorem Byt.fr (h : Byt S w v l) (hf : Fr O w w') (hO : ∀ x ∈ O, ¬ S x) : Byt S w' v l := Sl.fr h hf hO
theorem Byt.mono (h : Byt S w v l) (hS : ∀ b, S b → S' b) : Byt S' w v l := Sl.mono h hS
theorem Byt.nil : Byt S w (.slice none 0 0) [] := Sl.nil
theorem Byt.form (h : Byt S w v l) : ∃ A c, v = .slice A l.length c ∧ l.length ≤ c ∧ c ≤ maxLen := Sl.form h
theorem Byt.cut {A : Option Addr} {n c k : Nat} (h : Byt S w (.slice A n c) l) (hk : k ≤ l.length) : Byt S w (.slice (if c = k then A else A.map (·.add k)) (n - k) (c - k)) (l.drop k) := by
  have hn : n = l.length := by
    obtain ⟨_, A', c', hv, _⟩ := h
    injection hv
  subst hn
  have := Sl.cut h hk
  rw [Nat.mul_one] at this
  unfold Byt
  rw [List.length_drop, ← byts_drop]
  exact this
theorem Byt.take {A : Option Addr} {n c k : Nat} (h : Byt S w (.slice A n c) l) (hk : k ≤ l.length) : Byt S w (.slice A k c) (l.take k) := by
  have hn : n = l.length := by
    obtain ⟨_, A', c', hv, _⟩ := h
    injection hv
  subst hn
  have := Sl.take h hk
  rw [Nat.mul_one] at this
  unfold Byt
  rw [List.length_take, Nat.min_eq_left hk, ← byts_take]
  exact this
theorem Byt.len {A : Option Addr} {n c : Nat} (h : Byt S w (.slice A n c) l) : n = l.length := by
  obtain ⟨_, A', c', hv, _⟩ := h
  injection hv
theorem Byt.at_ {A : Option Addr} {n c k : Nat} (h : Byt S w (.slice A n c) l) (hk : k < l.length) : ∃ b o, A = some ⟨b, o, none⟩ ∧ S b ∧ w.cell? ⟨b, o + k, none⟩ = some (.int .u8 (l.getD k 0)) := by
  obtain ⟨_, A', c', hv, _, _, hx⟩ := h
  injection hv with hA _ _
  subst hA
  obtain ⟨b, o, e, hb, hu⟩ := hx (by omega)
  refine ⟨b, o, e, hb, hu k _ ?_⟩
  simp [byts, List.getElem?_eq_getElem hk]
/-- string(v). -/
theorem Byt.string {P : Program} (h : Byt S w v l) (src e : TypeId) (hs : P.underlying src = some (.slice e)) (he : P.underlying e = some (.int .u8)) :
    ∀ dst, P.underlying dst = some .string → (convert src dst v).run P w = .ok (.string (strOfNums l)) w := by
  obtain ⟨hl, A, c, rfl, hn, hc, hx⟩ := h
  intro dst hd
  rcases Nat.eq_zero_or_pos l.length with h0 | h0
  · obtain rfl : l = [] := List.eq_nil_of_length_eq_zero h0
    cases A with
    | none => exact run_convert_bytes_nil w src e hs he _ c dst hd
    | some ad =>
      obtain ⟨b, o, sp⟩ := ad
      have := run_bytesToString (P := P) w ⟨b, o, sp⟩ 0 c [] (by simp [loadCells, loadCellsFrom])
      show (convert src dst (.slice _ 0 c)).run P w = _
      rw [run_convert_bytes_string w src dst e _ 0 c hs he hd, this]
      rfl
  · obtain ⟨b, o, rfl, hb, hu⟩ := hx h0
    exact run_convert_bytes_arg w src e hs he b o _ c l rfl (fun i hi => hu i _ (by simp [byts, List.getElem?_eq_getElem hi])) dst hd
end

/-! ### Sets of blocks that nobody writes -/
/-- S' is S and blocks that were not there. -/
def Ext (w : World) (S S' : Nat → Prop) : Prop := (∀ b, S b → S' b) ∧ ∀ b, S' b → S b ∨ w.heap.size ≤ b
theorem Ext.refl (w : World) (S : Nat → Prop) : Ext w S S := ⟨fun _ h => h, fun _ h => .inl h⟩
theorem Ext.trans {w w1 : World} {S S' S'' : Nat → Prop} (h : Ext w S S') (hz : w.heap.size ≤ w1.heap.size) (k : Ext w1 S' S'') : Ext w S S'' :=
  ⟨fun b hb => k.1 b (h.1 b hb), fun b hb => by
    rcases k.2 b hb with h1 | h1
    · exact h.2 b h1
    · exact .inr (by omega)⟩
theorem Ext.off {w : World} {S S' : Nat → Prop} (h : Ext w S S') {b : Nat} (hb : b < w.heap.size) (hn : ¬ S b) : ¬ S' b := fun hs => by
  rcases h.2 b hs with h1 | h1
  · exact hn h1
  · omega
end Go.Proofs.Ytdlmhadcaagokaa
