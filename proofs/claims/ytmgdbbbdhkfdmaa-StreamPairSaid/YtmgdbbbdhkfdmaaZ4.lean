import Derived.Test.YtmgdbbbdhkfdmaaZ1
import Derived.Maps.AppendAt
import Derived.Deep.AppendLies
import Derived.RegionTactic
import Derived.OwnWalk
import Derived.Laws.BytesArg
import Derived.Deep.Quiet
import Derived.Test.YtmgdbbbdhkfdmaaProg
import Derived.Lib.Hide
import Derived.Deep.DeepCutAuto
import Derived.Lib.SliceRun
import Derived.Laws.Append
import Derived.Laws.OwnMore
import Derived.RangeFuncNested
import Derived.RangeFuncBound
import Derived.RangeFuncCalls
import Derived.RangeFuncLeaves
import Derived.Shelf.Abstract
import Derived.Shelf.RegionOpen
import Derived.OwnWalkIn
import Derived.TacticsInMore
import Derived.LoopNIn
import Derived.LoopIn
set_option linter.unusedSimpArgs false
set_option linter.unusedVariables false
/-
  The plain functions of the heap: numbers and lists alone, no program in sight.
-/
namespace Go.Proofs.Ytmgdbbbdhkfdmaa
set_option maxRecDepth 100000

/-- Some bytes from a place on. -/
structure Pc where
  at_ : Int
  d : List Int
instance : Inhabited Pc := ⟨⟨0, []⟩⟩
def Pc.beh (p : Pc) : Int := p.at_ + p.d.length
/-- A heap: how many pieces may be kept, up to where all was told, what is kept, the end. -/
structure Hp where
  most : Int
  next : Int
  kept : List Pc
  fin : Option Int

/-- What of a piece that begins no later than the place is told, and the place behind it. -/
def takeV (next : Int) (p : Pc) : List Int × Int := if p.beh ≤ next then ([], next) else (p.d.drop (next - p.at_).toNat, p.beh)
/-- Where the first of the first k stands by an order, among those of which something is so; -1: nowhere. -/
def bestV (is : Pc → Bool) (lt : Pc → Pc → Bool) (l : List Pc) : Nat → Int
  | 0 => -1
  | k + 1 => if is (l.getD k default) && (decide (bestV is lt l k < 0) || lt (l.getD k default) (l.getD (bestV is lt l k).toNat default)) then k else bestV is lt l k
def early (next : Int) (p : Pc) : Bool := decide (p.at_ ≤ next)
def ahead (p q : Pc) : Bool := decide (p.at_ < q.at_)
def readyV (next : Int) (l : List Pc) : Int := bestV (early next) ahead l l.length
/-- All pieces that are to be told now are told; n: no more than so many. -/
def drainV : Nat → Int → List Pc → Int × List Pc × List Int
  | 0, next, l => (next, l, [])
  | n + 1, next, l =>
    if readyV next l < 0 then (next, l, [])
    else
      ((drainV n (takeV next (l.getD (readyV next l).toNat default)).2 (l.eraseIdx (readyV next l).toNat)).1,
       (drainV n (takeV next (l.getD (readyV next l).toNat default)).2 (l.eraseIdx (readyV next l).toNat)).2.1,
       (takeV next (l.getD (readyV next l).toNat default)).1 ++ (drainV n (takeV next (l.getD (readyV next l).toNat default)).2 (l.eraseIdx (readyV next l).toNat)).2.2)
def past (e : Option Int) (b : Int) : Bool := match e with | none => false | some a => decide (a < b)
def other (e : Option Int) (b : Int) : Bool := match e with | none => false | some a => !(a == b)
/-- One that begins there and is as long or longer. -/
def longer (at_ : Int) (n : Nat) (p : Pc) : Bool := (p.at_ == at_) && decide (n ≤ p.d.length)
def putV (h : Hp) (at_ : Int) (d : List Int) : Hp × List Int × Int :=
  if at_ < 0 ∨ 4611686018427387904 < at_ ∨ d.length < 1 ∨ 64 < d.length then (h, [], 2)
  else if past h.fin (at_ + d.length) = true then (h, [], 250)
  else if at_ + d.length ≤ h.next then (h, [], 0)
  else if at_ ≤ h.next then
    ({ h with next := (drainV h.kept.length (at_ + d.length) h.kept).1, kept := (drainV h.kept.length (at_ + d.length) h.kept).2.1 }, d.drop (h.next - at_).toNat ++ (drainV h.kept.length (at_ + d.length) h.kept).2.2, 0)
  else if h.kept.any (longer at_ d.length) = true then (h, [], 0)
  else if h.most ≤ h.kept.length then (h, [], 251)
  else ({ h with kept := h.kept ++ [⟨at_, d⟩] }, [], 0)
def over (a : Int) (p : Pc) : Bool := decide (a < p.beh)
def endV (h : Hp) (at_ : Int) : Hp × Int :=
  if at_ < 0 ∨ 4611686018427387904 < at_ then (h, 2)
  else if (other h.fin at_ || decide (at_ < h.next) || h.kept.any (over at_)) = true then (h, 250)
  else ({ h with fin := some at_ }, 0)
def sumV : List Pc → Int
  | [] => 0
  | p :: l => p.d.length + sumV l
def newV (most : Int) : Hp := ⟨most, 0, [], none⟩

/-- What holds of every heap. -/
structure Inv (h : Hp) : Prop where
  m0 : 0 ≤ h.most
  m1 : h.most ≤ 64
  n0 : 0 ≤ h.next
  n1 : h.next ≤ 4611686018427387968
  len : (h.kept.length : Int) ≤ h.most
  pc : ∀ p ∈ h.kept, 0 ≤ p.at_ ∧ p.at_ ≤ 4611686018427387904 ∧ 1 ≤ p.d.length ∧ p.d.length ≤ 64
  fin : ∀ a, h.fin = some a → 0 ≤ a ∧ a ≤ 4611686018427387904

theorem best_succ (is : Pc → Bool) (lt : Pc → Pc → Bool) (l : List Pc) (k : Nat) : bestV is lt l (k + 1) =
    if is (l.getD k default) && (decide (bestV is lt l k < 0) || lt (l.getD k default) (l.getD (bestV is lt l k).toNat default)) then (k : Int) else bestV is lt l k := rfl
theorem best_bd (is : Pc → Bool) (lt : Pc → Pc → Bool) (l : List Pc) : ∀ k, -1 ≤ bestV is lt l k ∧ bestV is lt l k < k
  | 0 => by simp [bestV]
  | k + 1 => by
    have := best_bd is lt l k
    unfold bestV
    split <;> omega
theorem ready_bd (next : Int) (l : List Pc) : -1 ≤ readyV next l ∧ readyV next l < l.length := best_bd _ _ l _

theorem drain_len : ∀ n next l, (drainV n next l).2.1.length ≤ l.length
  | 0, _, _ => Nat.le_refl _
  | n + 1, next, l => by
    unfold drainV
    split
    · exact Nat.le_refl _
    · exact Nat.le_trans (drain_len n _ _) (List.length_eraseIdx_le _ _)
theorem drain_mem : ∀ n next l p, p ∈ (drainV n next l).2.1 → p ∈ l
  | 0, _, _, _, h => h
  | n + 1, next, l, p, h => by
    unfold drainV at h
    split at h
    · exact h
    · exact List.mem_of_mem_eraseIdx (drain_mem n _ _ p h)
theorem take_bd (next : Int) (p : Pc) (h0 : 0 ≤ next) (h1 : next ≤ 4611686018427387968) (hp : p.at_ ≤ 4611686018427387904 ∧ p.d.length ≤ 64) :
    0 ≤ (takeV next p).2 ∧ (takeV next p).2 ≤ 4611686018427387968 ∧ next ≤ (takeV next p).2 := by
  unfold takeV Pc.beh
  split
  · exact ⟨h0, h1, Int.le_refl _⟩
  · dsimp only
    omega
theorem getD_mem {l : List Pc} {i : Nat} (h : i < l.length) : l.getD i default ∈ l := by
  rw [List.getD_eq_getElem?_getD, List.getElem?_eq_getElem h]
  exact List.getElem_mem h
theorem drain_bd : ∀ n next l, 0 ≤ next → next ≤ 4611686018427387968 → (∀ p ∈ l, 0 ≤ p.at_ ∧ p.at_ ≤ 4611686018427387904 ∧ 1 ≤ p.d.length ∧ p.d.length ≤ 64) →
    0 ≤ (drainV n next l).1 ∧ (drainV n next l).1 ≤ 4611686018427387968 ∧ next ≤ (drainV n next l).1
  | 0, _, _, h0, h1, _ => ⟨h0, h1, Int.le_refl _⟩
  | n + 1, next, l, h0, h1, hp => by
    unfold drainV
    split
    · exact ⟨h0, h1, Int.le_refl _⟩
    · rename_i hn
      have hb := ready_bd next l
      have hm := hp _ (getD_mem (l := l) (i := (readyV next l).toNat) (by omega))
      have ht := take_bd next _ h0 h1 ⟨hm.2.1, hm.2.2.2⟩
      have := drain_bd n (takeV next (l.getD (readyV next l).toNat default)).2 (l.eraseIdx (readyV next l).toNat) ht.1 ht.2.1 (fun p hq => hp p (List.mem_of_mem_eraseIdx hq))
      exact ⟨this.1, this.2.1, Int.le_trans ht.2.2 this.2.2⟩
theorem put_inv {h : Hp} (hi : Inv h) (a : Int) (d : List Int) : Inv (putV h a d).1 := by
  unfold putV
  split
  · exact hi
  split
  · exact hi
  split
  · exact hi
  rename_i g1 g2 g3
  split
  · have h1 := drain_len h.kept.length (a + d.length) h.kept
    have h2 := drain_bd h.kept.length (a + d.length) h.kept (by omega) (by omega) hi.pc
    have h3 := hi.len
    exact ⟨hi.m0, hi.m1, h2.1, h2.2.1, by dsimp only; omega, fun p hp => hi.pc p (drain_mem _ _ _ _ hp), hi.fin⟩
  split
  · exact hi
  split
  · exact hi
  · refine ⟨hi.m0, hi.m1, hi.n0, hi.n1, by simp; omega, fun p hp => ?_, hi.fin⟩
    rcases List.mem_append.1 hp with hp | hp
    · exact hi.pc p hp
    · rw [List.mem_singleton] at hp
      subst hp
      dsimp only
      omega
theorem end_inv {h : Hp} (hi : Inv h) (a : Int) : Inv (endV h a).1 := by
  unfold endV
  split
  · exact hi
  split
  · exact hi
  · refine ⟨hi.m0, hi.m1, hi.n0, hi.n1, hi.len, hi.pc, fun b hb => ?_⟩
    injection hb with hb
    omega
theorem put_most (h : Hp) (a : Int) (d : List Int) : (putV h a d).1.most = h.most := by
  unfold putV
  (repeat' split) <;> rfl
theorem end_most (h : Hp) (a : Int) : (endV h a).1.most = h.most := by
  unfold endV
  (repeat' split) <;> rfl
theorem new_inv {m : Int} (h0 : 0 ≤ m) (h1 : m ≤ 64) : Inv (newV m) := ⟨h0, h1, by simp [newV], by simp [newV], by simpa [newV] using h0, by simp [newV], by simp [newV]⟩
theorem sum_bd : ∀ l : List Pc, (∀ p ∈ l, p.d.length ≤ 64) → 0 ≤ sumV l ∧ sumV l ≤ 64 * l.length
  | [], _ => by simp [sumV]
  | p :: l, h => by
    have h1 := sum_bd l fun q hq => h q (List.mem_cons_of_mem _ hq)
    have h2 := h p (List.mem_cons_self ..)
    simp only [sumV, List.length_cons]
    omega
theorem sum_snoc : ∀ (l : List Pc) (p : Pc), sumV (l ++ [p]) = sumV l + p.d.length
  | [], p => by simp [sumV]
  | q :: l, p => by
    have := sum_snoc l p
    simp only [List.cons_append, sumV]
    omega
/-- With no order the first one is meant: there is one just if there is one. -/
theorem best_any (is : Pc → Bool) (l : List Pc) : ∀ k, k ≤ l.length → (decide (0 ≤ bestV is (fun _ _ => false) l k) = (l.take k).any is)
  | 0, _ => by simp [bestV]
  | k + 1, hk => by
    have ih := best_any is l k (by omega)
    have hb := best_bd is (fun _ _ => false) l k
    rw [List.take_add_one, List.any_append, ← ih]
    have hx : l[k]? = some (l.getD k default) := by
      rw [List.getD_eq_getElem?_getD, List.getElem?_eq_getElem (by omega)]; rfl
    rw [hx, best_succ]
    generalize l.getD k default = x at *
    generalize bestV is (fun _ _ => false) l k = b at *
    cases hc : is x
    · simp [hc]
    · by_cases h0 : b < 0
      · simp [hc, h0]
      · simp [hc, h0]
        omega
theorem best_longer (at_ : Int) (n : Nat) (l : List Pc) : decide (0 ≤ bestV (longer at_ n) (fun _ _ => false) l l.length) = l.any (longer at_ n) := by
  have := best_any (longer at_ n) l l.length (Nat.le_refl _)
  rwa [List.take_length] at this
end Go.Proofs.Ytmgdbbbdhkfdmaa

namespace Go.Proofs.Ytmgdbbbdhkfdmaa
set_option maxRecDepth 100000
open Go.RowKit

/-! ### Worlds of which nothing old has turned: the class of a drawn region -/
structure Grew (w : World) where
  W : World
  fr : Fr [] w W
instance (w : World) : Inhabited (Grew w) := ⟨⟨w, Fr.refl [] w⟩⟩
theorem Grew.cell {w : World} {a : Addr} {v : Value} (h : w.cell? a = some v) (p : Grew w) : p.W.cell? a = some v :=
  (p.fr.cell (World.block_lt_of_cell? w a h) (by simp)).trans h
theorem wpQuiet_mono {P : Program} {ops : Array Oper} {C : World → Prop} {Q Q' : Act → Prop} (h : ∀ a, Q a → Q' a) : ∀ (l : List Oper) (a : Act), wpQuiet P ops C Q l a → wpQuiet P ops C Q' l a
  | [], a, hh => h a hh
  | o :: rest, a, hh => by
    unfold wpQuiet at hh ⊢
    split
    · rename_i hw
      rw [if_pos hw] at hh
      exact Oper.quiet_mono (fun a' => wpQuiet_mono h rest a') hh
    · rename_i hw
      rw [if_neg hw] at hh
      exact wpQuiet_mono h rest _ hh
theorem wp_region_grew {P : Program} {id : Nat} {Q : Exit → Act → World → Prop} {a : Act} {w : World} {l : List Oper} (hm : P.follows .mixedOrders = true) (hB : Region.lexB .any l.toArray = true)
    (h : wpQuiet P l.toArray (fun w' => ∃ p : Grew w, w' = p.W) (fun a' => ∀ w', Fr [] w w' → Q .normal a' w') l a) : (Code.region id l.toArray true).wp P Q a w :=
  wp_mono (wp_region_quiet (Q := fun e a w' => ∃ f : Fr [] w w', ∀ (_ : Fr [] w w'), Q e a w') (C := fun w' => ∃ p : Grew w, w' = p.W) hm hB ⟨⟨_, (Fr.refl [] w).drew⟩, rfl⟩ (by
    refine wpQuiet_mono (fun a' (ha : ∀ w', Fr [] w w' → Q .normal a' w') w' hw' => ?_) _ _ (by simpa using h)
    obtain ⟨p, rfl⟩ := hw'
    exact ⟨p.fr, fun f => ha _ f⟩)) (fun e a w' ⟨f, h⟩ => h f)
theorem grew_call {P : Program} {f : FuncId} {args : Array Value} {w : World} {p : Grew w} {v : Value}
    (h : Calls P f args p.W fun e w' => e = .returned v ∧ Fr [] p.W w') : Calls P f args p.W fun e w'' => e = .returned v ∧ ∃ q : Grew w, w'' = q.W :=
  h.mono fun _ _ ⟨he, hf⟩ => ⟨he, ⟨_, p.fr.trans hf (by simp)⟩, rfl⟩
theorem grew_same {P : Program} {f : FuncId} {args : Array Value} {w : World} {p : Grew w} {v : Value}
    (h : Calls P f args p.W fun e w' => e = .returned v ∧ p.W = w') : Calls P f args p.W fun e w'' => e = .returned v ∧ ∃ q : Grew w, w'' = q.W :=
  h.mono fun _ _ ⟨he, hf⟩ => ⟨he, p, hf.symm⟩

/-! ### Slices that are read -/
/-- A slice whose elements (size cells each) read as xs; it lies in a block of S. -/
def Sl (S : Nat → Prop) (w : World) (size : Nat) (v : Value) (n : Nat) (xs : List Value) : Prop :=
  xs.length = n * size ∧ ∃ A c, v = .slice A n c ∧ n ≤ c ∧ c ≤ maxLen ∧ (0 < n → ∃ b o, A = some ⟨b, o, none⟩ ∧ S b ∧ ∀ j u, xs[j]? = some u → w.cell? ⟨b, o + j, none⟩ = some u)
/-- The blocks that a slice value writes to. -/
def ob (v : Value) : List Nat := v.ownBlock.toList
theorem mem_ob {v : Value} {b : Nat} : b ∈ ob v ↔ v.ownBlock = some b := by unfold ob; cases v.ownBlock <;> simp [eq_comm]

section
variable {S S' : Nat → Prop} {w w' : World} {size n : Nat} {v : Value} {xs : List Value} {O : List Nat}
theorem Sl.fr (h : Sl S w size v n xs) (hf : Fr O w w') (hO : ∀ x ∈ O, ¬ S x) : Sl S w' size v n xs := by
  obtain ⟨hl, A, c, hv, hn, hc, hx⟩ := h
  refine ⟨hl, A, c, hv, hn, hc, fun h0 => ?_⟩
  obtain ⟨b, o, hA, hb, hu⟩ := hx h0
  exact ⟨b, o, hA, hb, fun j u hj => (hf.cell (p := ⟨b, o + j, none⟩) (World.block_lt_of_cell? w _ (hu j u hj)) (fun hm => hO _ hm hb)).trans (hu j u hj)⟩
theorem Sl.mono (h : Sl S w size v n xs) (hS : ∀ b, S b → S' b) : Sl S' w size v n xs := by
  obtain ⟨hl, A, c, hv, hn, hc, hx⟩ := h
  refine ⟨hl, A, c, hv, hn, hc, fun h0 => ?_⟩
  obtain ⟨b, o, hA, hb, hu⟩ := hx h0
  exact ⟨b, o, hA, hS b hb, hu⟩
theorem Sl.nil : Sl S w size (.slice none 0 0) 0 [] := ⟨by simp, none, 0, rfl, Nat.le_refl _, by simp [maxLen], fun h => absurd h (by omega)⟩
theorem Sl.none_ {c : Nat} (h : Sl S w size (.slice none n c) n xs) : n = 0 ∧ xs = [] := by
  obtain ⟨hl, A, c', hv, hn, hc, hx⟩ := h
  injection hv with hA _ _
  rcases Nat.eq_zero_or_pos n with h0 | h0
  · subst h0
    exact ⟨rfl, List.eq_nil_of_length_eq_zero (by simpa using hl)⟩
  · obtain ⟨b, o, hA', _⟩ := hx h0
    rw [← hA] at hA'
    cases hA'
theorem Sl.form (h : Sl S w size v n xs) : ∃ A c, v = .slice A n c ∧ n ≤ c ∧ c ≤ maxLen := by
  obtain ⟨_, A, c, hv, hn, hc, _⟩ := h
  exact ⟨A, c, hv, hn, hc⟩
theorem Sl.cut {A : Option Addr} {c k : Nat} (h : Sl S w size (.slice A n c) n xs) (hk : k ≤ n) :
    Sl S w size (.slice (if c = k then A else A.map (·.add (k * size))) (n - k) (c - k)) (n - k) (xs.drop (k * size)) := by
  obtain ⟨hl, A', c', hv, hn, hc, hx⟩ := h
  injection hv with hA _ hcc
  subst hA hcc
  refine ⟨by rw [List.length_drop, hl, Nat.sub_mul], _, _, rfl, by omega, by omega, fun h0 => ?_⟩
  obtain ⟨b, o, rfl, hb, hu⟩ := hx (by omega)
  rw [if_neg (by omega)]
  refine ⟨b, o + k * size, ?_, hb, fun j u hj => ?_⟩
  · simp only [Option.map_some]
    unfold Addr.add
    split
    · rename_i h; rw [h]; rfl
    · rfl
  · rw [Nat.add_assoc]
    exact hu _ u (by rw [← hj, List.getElem?_drop])
theorem Sl.take {A : Option Addr} {c k : Nat} (h : Sl S w size (.slice A n c) n xs) (hk : k ≤ n) : Sl S w size (.slice A k c) k (xs.take (k * size)) := by
  obtain ⟨hl, A', c', hv, hn, hc, hx⟩ := h
  injection hv with hA _ hcc
  subst hA hcc
  refine ⟨by rw [List.length_take, hl]; exact Nat.min_eq_left (Nat.mul_le_mul_right _ hk), _, _, rfl, by omega, hc, fun h0 => ?_⟩
  obtain ⟨b, o, rfl, hb, hu⟩ := hx (by omega)
  refine ⟨b, o, rfl, hb, fun j u hj => hu _ u ?_⟩
  rw [List.getElem?_take] at hj
  split at hj
  · exact hj
  · cases hj
theorem Sl.of_own {e : TypeId} (h : w.ownsRow 0 e size v n xs) (hS : ∀ b, v.ownBlock = some b → S b) : Sl S w size v n xs := by
  refine ⟨h.1, ?_⟩
  rcases h.2 with ⟨rfl, rfl⟩ | ⟨g, cap, cur, rfl, _, hg, hnc, hcm, hcs, htake⟩
  · exact ⟨none, 0, rfl, Nat.le_refl _, by simp [maxLen], fun h => absurd h (by omega)⟩
  · refine ⟨_, _, rfl, hnc, hcm, fun h0 => ⟨g, 0, rfl, hS g rfl, fun j u hj => ?_⟩⟩
    rw [Nat.zero_add, cell_of_row w g j cur e (0, 0) hg, ← Array.getElem?_toList]
    rw [← htake, List.getElem?_take] at hj
    split at hj
    · exact hj
    · cases hj
theorem own_fr {base : Nat} {e : TypeId} (h : w.ownsRow base e size v n xs) (hf : Fr O w w') (hO : ∀ b, v.ownBlock = some b → b ∉ O) : w'.ownsRow base e size v n xs := by
  refine ⟨h.1, ?_⟩
  rcases h.2 with hn | ⟨g, cap, cur, rfl, hb, hgg, rest⟩
  · exact .inl hn
  · exact .inr ⟨g, cap, cur, rfl, hb, (hf.block g (Array.getElem?_eq_some_iff.1 hgg).1 (hO g rfl)).trans hgg, rest⟩
theorem own_form {base : Nat} {e : TypeId} (h : w.ownsRow base e size v n xs) : ∃ A c, v = .slice A n c ∧ n ≤ c ∧ c ≤ maxLen := by
  rcases h.2 with ⟨rfl, rfl⟩ | ⟨g, cap, cur, rfl, hb, hgg, h1, h2, _⟩
  · exact ⟨none, 0, rfl, Nat.le_refl _, by simp [maxLen]⟩
  · exact ⟨_, _, rfl, h1, h2⟩
theorem own_lt {base : Nat} {e : TypeId} (h : w.ownsRow base e size v n xs) {b : Nat} (hb : v.ownBlock = some b) : b < w.heap.size := (h.lt b hb).2
/-- Rows of one type lie apart from blocks of another. -/
theorem own_ne {base : Nat} {e t : TypeId} {cs : Array Value} {g : Nat} (h : w.ownsRow base e size v n xs) (hg : Blk w g t cs) (hne : e ≠ t) : v.ownBlock ≠ some g := by
  rcases h.2 with ⟨rfl, _⟩ | ⟨g', cap, cur, rfl, _, hh, _⟩
  · simp [Value.ownBlock]
  · intro he
    obtain rfl : g' = g := by simpa [Value.ownBlock] using he
    unfold Blk at hg
    rw [hh] at hg
    injection hg with hg
    injection hg with _ ht
    exact hne ht
theorem own_ne2 {base base' : Nat} {e t : TypeId} {m size' : Nat} {v' : Value} {ys : List Value} (h : w.ownsRow base e size v n xs) (h' : w.ownsRow base' t size' v' m ys) (hne : e ≠ t) {b : Nat} (hb : v.ownBlock = some b) : v'.ownBlock ≠ some b := by
  rcases h.2 with ⟨rfl, _⟩ | ⟨g, cap, cur, rfl, _, hh, _⟩
  · simp [Value.ownBlock] at hb
  · obtain rfl : g = b := by simpa [Value.ownBlock] using hb
    exact own_ne h' (g := g) (cs := cur) hh (fun e => hne e.symm)
theorem blk_ne {g g' : Nat} {t t' : TypeId} {cs cs' : Array Value} (h : Blk w g t cs) (h' : Blk w g' t' cs') (hne : t ≠ t') : g ≠ g' := by
  rintro rfl
  unfold Blk at h h'
  rw [h] at h'
  injection h' with h'
  injection h' with _ ht
  exact hne ht
end

/-! ### append -/
section
variable {P : Program} (w : World)
theorem run_append_sl (t ty e : TypeId) (i : TypeInfo) (z : Value) (size bytes : Nat) (ht : P.underlying t = some (.slice e)) (hi : P.info? e = some i) (hz : i.zero = some z)
    (hsize : i.size = size) (hby : i.bytes = bytes) (hzs : z.cells.size = size) (hsz : 0 < size)
    (v : Value) (n : Nat) (xs : List Value) (hown : w.ownsRow 0 e size v n xs)
    (S : Nat → Prop) (s : Value) (m : Nat) (news : List Value) (hr : Sl S w size s m news) (h1 : ∀ u ∈ news, u.oneCell' = true)
    (h63 : n + m ≤ maxLen) (hbytes : (n + m) * bytes ≤ 140737488355328) :
    ∃ A c w', (Builtin.append_ #[t, t] ty #[v, s]).run P w = .ok (.slice A (n + m) c) w' ∧ w'.ownsRow 0 e size (.slice A (n + m) c) (n + m) (xs ++ news) ∧ Fr (ob v) w w' ∧
      (∀ b, (Value.slice A (n + m) c).ownBlock = some b → v.ownBlock = some b ∨ (w.heap.size ≤ b ∧ b < w'.heap.size)) := by
  obtain ⟨hl, As, cs, rfl, hmc, hcm, hx⟩ := hr
  rcases Nat.eq_zero_or_pos m with h0 | h0
  · subst h0
    have hn : news = [] := List.eq_nil_of_length_eq_zero (by simpa using hl)
    subst hn
    rcases hown.2 with ⟨rfl, rfl⟩ | ⟨g, cap, cur, rfl, hb, hg, hnc, hr⟩
    · refine ⟨none, 0, w, ?_, by simpa using hown, (Fr.refl _ _), fun b hb => .inl hb⟩
      cases As with
      | none => simp [Builtin.append_, run_underlying ht, sizeOf, typeInfo, hi, Builtin.lenOf, Builtin.firstCells]
      | some ad => simp [Builtin.append_, run_underlying ht, sizeOf, typeInfo, hi, Builtin.lenOf, Builtin.firstCells, loadCells, loadCellsFrom]
    · refine ⟨_, cap, w, ?_, by simpa using hown, (Fr.refl _ _), fun b hb => .inl hb⟩
      cases As with
      | none => simp [Builtin.append_, run_underlying ht, sizeOf, typeInfo, hi, Builtin.lenOf, Builtin.firstCells, hnc, storeCells]
      | some ad => simp [Builtin.append_, run_underlying ht, sizeOf, typeInfo, hi, Builtin.lenOf, Builtin.firstCells, hnc, storeCells, loadCells, loadCellsFrom]
  · obtain ⟨b, o, rfl, hb, hu⟩ := hx h0
    have hcells : ∀ j u, news[j]? = some u → w.cell? ((⟨b, o, none⟩ : Addr).add j) = some u := fun j u hj => by
      have : (⟨b, o, none⟩ : Addr).add j = ⟨b, o + j, none⟩ := by unfold Addr.add; split <;> simp_all
      rw [this]; exact hu j u hj
    obtain ⟨g, cap, w', hr, h2, h3, h4, h5⟩ := run_append_lies (P := P) w t ty 0 e i z size bytes ht hi hz hsize hby hzs hsz v n xs hown ⟨b, o, none⟩ m cs news hl hcells h1 h0 h63 hbytes (Nat.zero_le _) w.heap.size rfl
    refine ⟨_, cap, w', hr, h2, ⟨h3.os, h3.tape, h3.output, h3.size, fun k hk hn => h3.block k hk (fun e => hn (mem_ob.2 e.symm))⟩, fun b' hb' => ?_⟩
    have : g = b' := by simpa [Value.ownBlock] using hb'
    subst this
    rcases h4 with h4 | h4
    · exact .inl h4
    · exact .inr ⟨by omega, h5⟩

theorem wp_append_sl {o : Oper} {a : Act} {K : Act → World → Prop} {Q : Exit → Act → World → Prop} (d x : Operand) (t : TypeId)
    (ho : o.op = .call { callee := .builtin .append, args := #[d, x], argTypes := #[t, t] })
    (e : TypeId) (i : TypeInfo) (z : Value) (size bytes : Nat) (ht : P.underlying t = some (.slice e)) (hi : P.info? e = some i) (hz : i.zero = some z)
    (hsize : i.size = size) (hby : i.bytes = bytes) (hzs : z.cells.size = size) (hsz : 0 < size)
    (v : Value) (n : Nat) (xs : List Value) (hd : a.eval d = v) (hown : w.ownsRow 0 e size v n xs)
    (S : Nat → Prop) (s : Value) (m : Nat) (news : List Value) (hx : a.eval x = s) (hr : Sl S w size s m news) (h1 : ∀ u ∈ news, u.oneCell' = true)
    (h63 : n + m ≤ maxLen) (hbytes : (n + m) * bytes ≤ 140737488355328) (N : Nat) (hN : n + m = N)
    (h : ∀ A c w', w'.ownsRow 0 e size (.slice A N c) N (xs ++ news) → Fr (ob v) w w' → (∀ b, (Value.slice A N c).ownBlock = some b → v.ownBlock = some b ∨ (w.heap.size ≤ b ∧ b < w'.heap.size)) → K (a.put o.dst (.slice A N c)) w') : o.wp P a w K Q := by
  subst hN
  obtain ⟨A, c, w', hrun, h2, h3, h4⟩ := run_append_sl (P := P) w t o.type e i z size bytes ht hi hz hsize hby hzs hsz v n xs hown S s m news hr h1 h63 hbytes
  unfold Oper.wp execOp
  simp only [ho, resolve, invoke, builtin, Sem.run_bind, Sem.run_pure, Result.andThen_ok, List.map_toArray, List.map_cons, List.map_nil, hd, hx, hrun]
  exact h A c w' h2 h3 h4

theorem wpList_append_sl {ops : Array Oper} {rest : List Oper} {o : Oper} {a : Act} {Q : Exit → Act → World → Prop} (hgd : o.guard = none) (d x : Operand) (t : TypeId)
    (ho : o.op = .call { callee := .builtin .append, args := #[d, x], argTypes := #[t, t] })
    (e : TypeId) (i : TypeInfo) (z : Value) (size bytes : Nat) (ht : P.underlying t = some (.slice e)) (hi : P.info? e = some i) (hz : i.zero = some z)
    (hsize : i.size = size) (hby : i.bytes = bytes) (hzs : z.cells.size = size) (hsz : 0 < size)
    (v : Value) (n : Nat) (xs : List Value) (hd : a.eval d = v) (hown : w.ownsRow 0 e size v n xs)
    (S : Nat → Prop) (s : Value) (m : Nat) (news : List Value) (hx : a.eval x = s) (hr : Sl S w size s m news) (h1 : ∀ u ∈ news, u.oneCell' = true)
    (h63 : n + m ≤ maxLen) (hbytes : (n + m) * bytes ≤ 140737488355328) (N : Nat) (hN : n + m = N)
    (h : ∀ A c w', w'.ownsRow 0 e size (.slice A N c) N (xs ++ news) → Fr (ob v) w w' → (∀ b, (Value.slice A N c).ownBlock = some b → v.ownBlock = some b ∨ (w.heap.size ≤ b ∧ b < w'.heap.size)) → wpList P ops Q rest (a.put o.dst (.slice A N c)) w') : wpList P ops Q (o :: rest) a w :=
  wpList_plain hgd fun _ hK => wp_append_sl w d x t ho e i z size bytes ht hi hz hsize hby hzs hsz v n xs hd hown S s m news hx hr h1 h63 hbytes N hN fun A c w' h2 h3 h4 => hK _ _ (h A c w' h2 h3 h4)

theorem step_append_sl {ops : Array Oper} {o : Oper} {a : Act} {K : Act → World → Prop} {Q : Exit → Act → World → Prop} {E : Prop} (hgd : o.guard = none) (d x : Operand) (t : TypeId)
    (ho : o.op = .call { callee := .builtin .append, args := #[d, x], argTypes := #[t, t] })
    (e : TypeId) (i : TypeInfo) (z : Value) (size bytes : Nat) (ht : P.underlying t = some (.slice e)) (hi : P.info? e = some i) (hz : i.zero = some z)
    (hsize : i.size = size) (hby : i.bytes = bytes) (hzs : z.cells.size = size) (hsz : 0 < size)
    (v : Value) (n : Nat) (xs : List Value) (hd : a.eval d = v) (hown : w.ownsRow 0 e size v n xs)
    (S : Nat → Prop) (s : Value) (m : Nat) (news : List Value) (hx : a.eval x = s) (hr : Sl S w size s m news) (h1 : ∀ u ∈ news, u.oneCell' = true)
    (h63 : n + m ≤ maxLen) (hbytes : (n + m) * bytes ≤ 140737488355328) (N : Nat) (hN : n + m = N)
    (h : ∀ A c w', w'.ownsRow 0 e size (.slice A N c) N (xs ++ news) → Fr (ob v) w w' → (∀ b, (Value.slice A N c).ownBlock = some b → v.ownBlock = some b ∨ (w.heap.size ≤ b ∧ b < w'.heap.size)) → K (a.put o.dst (.slice A N c)) w') :
    if Region.wanted o (yielded ops a.tmps) = true then Oper.wp P o a w K Q else E := by
  have hw : Region.wanted o (yielded ops a.tmps) = true := by simp [Region.wanted, hgd]
  rw [if_pos hw]
  exact wp_append_sl w d x t ho e i z size bytes ht hi hz hsize hby hzs hsz v n xs hd hown S s m news hx hr h1 h63 hbytes N hN h
end

/-! ### Bytes -/
def byts (l : List Int) : List Value := l.map (Value.int .u8)
def Byt (S : Nat → Prop) (w : World) (v : Value) (l : List Int) : Prop := Sl S w 1 v l.length (byts l)
theorem byts_one (l : List Int) : ∀ u ∈ byts l, u.oneCell' = true := by
  intro u hu
  obtain ⟨x, _, rfl⟩ := List.mem_map.1 hu
  rfl
theorem byts_app (l m : List Int) : byts l ++ byts m = byts (l ++ m) := by simp [byts]
theorem byts_drop (l : List Int) (k : Nat) : (byts l).drop k = byts (l.drop k) := by simp [byts]
theorem byts_take (l : List Int) (k : Nat) : (byts l).take k = byts (l.take k) := by simp [byts]
section
variable {S S' : Nat → Prop} {w w' : World} {v : Value} {l : List Int} {O : List Nat}
theorem Byt.fr (h : Byt S w v l) (hf : Fr O w w') (hO : ∀ x ∈ O, ¬ S x) : Byt S w' v l := Sl.fr h hf hO
theorem Byt.mono (h : Byt S w v l) (hS : ∀ b, S b → S' b) : Byt S' w v l := Sl.mono h hS
theorem Byt.nil : Byt S w (.slice none 0 0) [] := Sl.nil
theorem Byt.form (h : Byt S w v l) : ∃ A c, v = .slice A l.length c ∧ l.length ≤ c ∧ c ≤ maxLen := Sl.form h
theorem Byt.cut {A : Option Addr} {n c k : Nat} (h : Byt S w (.slice A n c) l) (hk : k ≤ l.length) : Byt S w (.slice (if c = k then A else A.map (·.add k)) (n - k) (c - k)) (l.drop k) := by
  have hn : n = l.length := by
    obtain ⟨_, A', c', hv, _⟩ := h
    injection hv
  subst hn
  have := Sl.cut h hk
  rw [Nat.mul_one] at this
  unfold Byt
  rw [List.length_drop, ← byts_drop]
  exact this
theorem Byt.take {A : Option Addr} {n c k : Nat} (h : Byt S w (.slice A n c) l) (hk : k ≤ l.length) : Byt S w (.slice A k c) (l.take k) := by
  have hn : n = l.length := by
    obtain ⟨_, A', c', hv, _⟩ := h
    injection hv
  subst hn
  have := Sl.take h hk
  rw [Nat.mul_one] at this
  unfold Byt
  rw [List.length_take, Nat.min_eq_left hk, ← byts_take]
  exact this
theorem Byt.len {A : Option Addr} {n c : Nat} (h : Byt S w (.slice A n c) l) : n = l.length := by
  obtain ⟨_, A', c', hv, _⟩ := h
  injection hv
theorem Byt.at_ {A : Option Addr} {n c k : Nat} (h : Byt S w (.slice A n c) l) (hk : k < l.length) : ∃ b o, A = some ⟨b, o, none⟩ ∧ S b ∧ w.cell? ⟨b, o + k, none⟩ = some (.int .u8 (l.getD k 0)) := by
  obtain ⟨_, A', c', hv, _, _, hx⟩ := h
  injection hv with hA _ _
  subst hA
  obtain ⟨b, o, e, hb, hu⟩ := hx (by omega)
  refine ⟨b, o, e, hb, hu k _ ?_⟩
  simp [byts, List.getElem?_eq_getElem hk]
/-- string(v). -/
theorem Byt.string {P : Program} (h : Byt S w v l) (src e : TypeId) (hs : P.underlying src = some (.slice e)) (he : P.underlying e = some (.int .u8)) :
    ∀ dst, P.underlying dst = some .string → (convert src dst v).run P w = .ok (.string (strOfNums l)) w := by
  obtain ⟨hl, A, c, rfl, hn, hc, hx⟩ := h
  intro dst hd
  rcases Nat.eq_zero_or_pos l.length with h0 | h0
  · obtain rfl : l = [] := List.eq_nil_of_length_eq_zero h0
    cases A with
    | none => exact run_convert_bytes_nil w src e hs he _ c dst hd
    | some ad =>
      obtain ⟨b, o, sp⟩ := ad
      have := run_bytesToString (P := P) w ⟨b, o, sp⟩ 0 c [] (by simp [loadCells, loadCellsFrom])
      show (convert src dst (.slice _ 0 c)).run P w = _
      rw [run_convert_bytes_string w src dst e _ 0 c hs he hd, this]
      rfl
  · obtain ⟨b, o, rfl, hb, hu⟩ := hx h0
    exact run_convert_bytes_arg w src e hs he b o _ c l rfl (fun i hi => hu i _ (by simp [byts, List.getElem?_eq_getElem hi])) dst hd
end

/-! ### Sets of blocks that nobody writes -/
/-- S' is S and blocks that were not there. -/
def Ext (w : World) (S S' : Nat → Prop) : Prop := (∀ b, S b → S' b) ∧ ∀ b, S' b → S b ∨ w.heap.size ≤ b
theorem Ext.refl (w : World) (S : Nat → Prop) : Ext w S S := ⟨fun _ h => h, fun _ h => .inl h⟩
theorem Ext.trans {w w1 : World} {S S' S'' : Nat → Prop} (h : Ext w S S') (hz : w.heap.size ≤ w1.heap.size) (k : Ext w1 S' S'') : Ext w S S'' :=
  ⟨fun b hb => k.1 b (h.1 b hb), fun b hb => by
    rcases k.2 b hb with h1 | h1
    · exact h.2 b h1
    · exact .inr (by omega)⟩
theorem Ext.off {w : World} {S S' : Nat → Prop} (h : Ext w S S') {b : Nat} (hb : b < w.heap.size) (hn : ¬ S b) : ¬ S' b := fun hs => by
  rcases h.2 b hs with h1 | h1
  · exact hn h1
  · omega
end Go.Proofs.Ytmgdbbbdhkfdmaa

/-
  What a heap is in memory: its block, the row of its pieces, their bytes.
-/
namespace Go.Proofs.Ytmgdbbbdhkfdmaa
set_option maxRecDepth 100000
open Go.RowKit

abbrev ptr (g : Nat) : Value := .pointer (some ⟨g, 0, none⟩)
/-- The cells of a row of pieces: each one's place and its bytes' slice. -/
def pcs : List (Pc × Value) → List Value
  | [] => []
  | x :: L => .int .i64 x.1.at_ :: x.2 :: pcs L
theorem pcs_len : ∀ L, (pcs L).length = L.length * 2
  | [] => rfl
  | x :: L => by simp only [pcs, List.length_cons, pcs_len L]; omega
theorem pcs_app : ∀ L M, pcs L ++ pcs M = pcs (L ++ M)
  | [], _ => rfl
  | x :: L, M => by simp only [pcs, List.cons_append, pcs_app L M]
theorem pcs_take : ∀ (L : List (Pc × Value)) k, (pcs L).take (k * 2) = pcs (L.take k)
  | [], k => by simp [pcs]
  | x :: L, 0 => by simp [pcs]
  | x :: L, k + 1 => by
    rw [show (k + 1) * 2 = k * 2 + 1 + 1 by omega]
    simp only [pcs, List.take_succ_cons, pcs_take L k]
theorem pcs_drop : ∀ (L : List (Pc × Value)) k, (pcs L).drop (k * 2) = pcs (L.drop k)
  | [], k => by simp [pcs]
  | x :: L, 0 => by simp [pcs]
  | x :: L, k + 1 => by
    rw [show (k + 1) * 2 = k * 2 + 1 + 1 by omega]
    simp only [pcs, List.drop_succ_cons, pcs_drop L k]
theorem pcs_at : ∀ (L : List (Pc × Value)) k (x : Pc × Value), L[k]? = some x → (pcs L)[k * 2]? = some (.int .i64 x.1.at_) ∧ (pcs L)[k * 2 + 1]? = some x.2
  | [], k, x, h => by simp at h
  | y :: L, 0, x, h => by
    simp at h
    subst h
    exact ⟨rfl, rfl⟩
  | y :: L, k + 1, x, h => by
    simp at h
    rw [show (k + 1) * 2 = k * 2 + 1 + 1 by omega, show k * 2 + 1 + 1 + 1 = (k * 2 + 1) + 1 + 1 by omega]
    simp only [pcs, List.getElem?_cons_succ]
    exact pcs_at L k x h
theorem pcs_one : ∀ L : List (Pc × Value), (∀ x ∈ L, x.2.oneCell' = true) → ∀ u ∈ pcs L, u.oneCell' = true
  | [], _, u, hu => by simp [pcs] at hu
  | y :: L, h, u, hu => by
    simp only [pcs, List.mem_cons] at hu
    rcases hu with rfl | rfl | hu
    · rfl
    · exact h _ (List.mem_cons_self ..)
    · exact pcs_one L (fun x hx => h x (List.mem_cons_of_mem _ hx)) u hu

/-- A row of pieces, of element type e. -/
structure Kp (e : TypeId) (S : Nat → Prop) (w : World) (kv : Value) (L : List (Pc × Value)) : Prop where
  own : w.ownsRow 0 e 2 kv L.length (pcs L)
  byt : ∀ x ∈ L, Byt S w x.2 x.1.d
section
variable {e : TypeId} {S S' : Nat → Prop} {w w' : World} {kv : Value} {L : List (Pc × Value)} {O : List Nat}
theorem Byt.one {v : Value} {l : List Int} (h : Byt S w v l) : v.oneCell' = true := by
  obtain ⟨A, c, rfl, _⟩ := h.form
  rfl
theorem Kp.fr (h : Kp e S w kv L) (hf : Fr O w w') (hO : ∀ x ∈ O, ¬ S x) (hk : ∀ b, kv.ownBlock = some b → b ∉ O) : Kp e S w' kv L :=
  ⟨own_fr h.own hf hk, fun x hx => (h.byt x hx).fr hf hO⟩
theorem Kp.mono (h : Kp e S w kv L) (hS : ∀ b, S b → S' b) : Kp e S' w kv L := ⟨h.own, fun x hx => (h.byt x hx).mono hS⟩
theorem Kp.at_ (h : Kp e S w kv L) {k : Nat} (hk : k < L.length) : ∃ b c x, kv = .slice (some ⟨b, 0, none⟩) L.length c ∧ L[k]? = some x ∧ w.cell? ⟨b, k * 2, none⟩ = some (.int .i64 x.1.at_) ∧ w.cell? ⟨b, k * 2 + 1, none⟩ = some x.2 ∧ Byt S w x.2 x.1.d := by
  have hs := Sl.of_own (S := fun _ => True) h.own (fun _ _ => trivial)
  rcases h.own.2 with ⟨rfl, h0⟩ | ⟨g, cap, cur, rfl, _, hg, _⟩
  · omega
  · have hx : L[k]? = some L[k] := List.getElem?_eq_getElem hk
    obtain ⟨h1, h2⟩ := pcs_at L k _ hx
    obtain ⟨_, A, c', hv, _, _, hu⟩ := hs
    obtain ⟨b, o, hA, _, hc⟩ := hu (by omega)
    subst hA
    injection hv with hv _ _
    injection hv with hv
    injection hv with hb ho _
    subst hb ho
    refine ⟨g, cap, L[k], rfl, hx, ?_, ?_, h.byt _ (List.getElem_mem hk)⟩
    · have := hc _ _ h1; rwa [Nat.zero_add] at this
    · have := hc _ _ h2; rwa [Nat.zero_add] at this
theorem Kp.form (h : Kp e S w kv L) : ∃ A c, kv = .slice A L.length c ∧ L.length ≤ c ∧ c ≤ maxLen := own_form h.own
theorem Kp.one (h : Kp e S w kv L) : ∀ u ∈ pcs L, u.oneCell' = true := pcs_one L fun x hx => (h.byt x hx).one
end

/-- A heap in memory: its block g, the row kv of its pieces, the end's pointer ev. -/
structure HPx (S : Nat → Prop) (w : World) (g : Nat) (kv ev : Value) (h : Hp) (L : List (Pc × Value)) : Prop where
  blk : Blk w g 115 #[.int .i64 h.most, .int .i64 h.next, kv, ev, .bool true]
  kp : Kp 120 S w kv L
  kept : h.kept = L.map (·.1)
  fin : (h.fin = none ∧ ev = .pointer none) ∨ ∃ a b, h.fin = some a ∧ ev = ptr b ∧ S b ∧ w.cell? ⟨b, 0, none⟩ = some (.int .i64 a)
  pub : ∀ b, S b → b < w.heap.size
  offg : ¬ S g
  offk : ∀ b, kv.ownBlock = some b → ¬ S b
def HP (S : Nat → Prop) (w : World) (g : Nat) (kv : Value) (h : Hp) : Prop := ∃ ev L, HPx S w g kv ev h L
/-- One that is not there. -/
def Hz (w : World) (g : Nat) : Prop := Blk w g 115 #[.int .i64 0, .int .i64 0, .slice none 0 0, .pointer none, .bool false]

section
variable {S S' : Nat → Prop} {w w' : World} {g : Nat} {kv ev : Value} {h : Hp} {L : List (Pc × Value)} {O : List Nat}
theorem HPx.fr (m : HPx S w g kv ev h L) (f : Fr O w w') (hO : ∀ x ∈ O, ¬ S x) (hg : g ∉ O) (hk : ∀ b, kv.ownBlock = some b → b ∉ O) : HPx S w' g kv ev h L := by
  refine ⟨m.blk.fr f hg, m.kp.fr f hO hk, m.kept, ?_, fun b hb => Nat.lt_of_lt_of_le (m.pub b hb) f.size, m.offg, m.offk⟩
  rcases m.fin with h1 | ⟨a, b, h1, h2, h3, h4⟩
  · exact .inl h1
  · exact .inr ⟨a, b, h1, h2, h3, (f.cell (p := ⟨b, 0, none⟩) (m.pub b h3) (fun hm => hO b hm h3)).trans h4⟩
theorem HPx.ext (m : HPx S w g kv ev h L) (f : Fr O w w') (x : Ext w S S') (hO : ∀ x ∈ O, ¬ S x) (hg : g ∉ O) (hk : ∀ b, kv.ownBlock = some b → b ∉ O) (hp : ∀ b, S' b → b < w'.heap.size) : HPx S' w' g kv ev h L := by
  have n := m.fr f hO hg hk
  refine ⟨n.blk, n.kp.mono x.1, n.kept, ?_, hp, x.off m.blk.lt m.offg, fun b hb => x.off (own_lt m.kp.own hb) (m.offk b hb)⟩
  rcases n.fin with h1 | ⟨a, b, h1, h2, h3, h4⟩
  · exact .inl h1
  · exact .inr ⟨a, b, h1, h2, x.1 b h3, h4⟩
theorem HPx.len (m : HPx S w g kv ev h L) : h.kept.length = L.length := by rw [m.kept, List.length_map]
theorem HPx.cells (m : HPx S w g kv ev h L) : w.cell? ⟨g, 0, none⟩ = some (.int .i64 h.most) ∧ w.cell? ⟨g, 1, none⟩ = some (.int .i64 h.next) ∧ w.cell? ⟨g, 2, none⟩ = some kv ∧ w.cell? ⟨g, 3, none⟩ = some ev ∧ w.cell? ⟨g, 4, none⟩ = some (.bool true) :=
  ⟨by simpa using m.blk.cell 0, by simpa using m.blk.cell 1, by simpa using m.blk.cell 2, by simpa using m.blk.cell 3, by simpa using m.blk.cell 4⟩
theorem HPx.get (m : HPx S w g kv ev h L) {k : Nat} {x : Pc × Value} (hx : L[k]? = some x) : h.kept.getD k default = x.1 := by
  rw [m.kept, List.getD_eq_getElem?_getD, List.getElem?_map, hx]; rfl
end
end Go.Proofs.Ytmgdbbbdhkfdmaa

namespace Go.Proofs.Ytmgdbbbdhkfdmaa
set_option maxRecDepth 100000
open Go.RowKit

abbrev agp (a : Int) (v : Value) : Value := .agg #[.int .i64 a, v]
abbrev bxp (a : Int) (v : Value) : Obj := .cells #[.int .i64 a, v] 120

theorem none_nil (w : World) : Calls Try.prog 70 #[.pointer none] w fun e w' => e = .returned (.bool true) ∧ w = w' := by
  go_enter Try.func70, Try.ntmps70
  go_wp2
  go_ret
  exact ⟨rfl, rfl⟩
theorem none_z (g : Nat) (w : World) (m : Hz w g) : Calls Try.prog 70 #[ptr g] w fun e w' => e = .returned (.bool true) ∧ w = w' := by
  have c4 : w.cell? ⟨g, 4, none⟩ = some (.bool false) := by simpa using Blk.cell m 4
  go_enter Try.func70, Try.ntmps70
  go_wp2
  go_ret
  exact ⟨rfl, rfl⟩
theorem none_hp {g : Nat} {w : World} (c4 : w.cell? ⟨g, 4, none⟩ = some (.bool true)) : Calls Try.prog 70 #[ptr g] w fun e w' => e = .returned (.bool false) ∧ w = w' := by
  go_enter Try.func70, Try.ntmps70
  go_wp2
  go_ret
  exact ⟨rfl, rfl⟩
theorem new_no (m : Int) (w : World) (h : m < 0 ∨ 64 < m) : Calls Try.prog 38 #[.int .i64 m] w fun e w' => e = .returned (.tuple #[.pointer none, .int .i64 2]) ∧ w = w' := by
  by_cases h0 : m < 0
  · go_enter Try.func38, Try.ntmps38
    go_wp2
    go_ret2
    exact ⟨rfl, rfl⟩
  · have h1 : 64 < m := by omega
    clear h
    go_enter Try.func38, Try.ntmps38
    go_wp2
    go_ret2
    exact ⟨rfl, rfl⟩
theorem new_yes (m : Int) (w : World) (h0 : 0 ≤ m) (h1 : m ≤ 64) :
    Calls Try.prog 38 #[.int .i64 m] w fun e w' => e = .returned (.tuple #[ptr w.heap.size, .int .i64 0]) ∧ w.alloc (.cells #[.int .i64 m, .int .i64 0, .slice none 0 0, .pointer none, .bool true] 115) = w' := by
  go_enter Try.func38, Try.ntmps38
  go_wp2
  go_ret2
  exact ⟨rfl, rfl⟩
theorem new_hp (S : Nat → Prop) (m : Int) (w : World) (h0 : 0 ≤ m) (h1 : m ≤ 64) (hp : ∀ b, S b → b < w.heap.size) :
    Calls Try.prog 38 #[.int .i64 m] w fun e w' => e = .returned (.tuple #[ptr w.heap.size, .int .i64 0]) ∧ Fr [] w w' ∧ HP S w' w.heap.size (.slice none 0 0) (newV m) ∧ w'.heap.size = w.heap.size + 1 :=
  (new_yes m w h0 h1).mono fun _ _ ⟨he, hw⟩ => by
    subst hw
    refine ⟨he, (Fr.refl _ _).alloc _, ⟨.pointer none, [], Blk.new _ _ _, ⟨World.ownsRow_nil _ _ _ _, by simp⟩, rfl, .inl ⟨rfl, rfl⟩, fun b hb => by have := hp b hb; simp; omega, fun hs => by have := hp _ hs; omega, by simp [Value.ownBlock]⟩, by simp⟩
theorem behind_any (a : Int) (A : Option Addr) (n c : Nat) (w : World) (h0 : 0 ≤ a) (h1 : a ≤ 4611686018427387968) (hn : n ≤ 1000000) :
    Calls Try.prog 86 #[agp a (.slice A n c)] w fun e w' => e = .returned (.int .i64 (a + n)) ∧ w.alloc (bxp a (.slice A n c)) = w' := by
  go_enter Try.func86, Try.ntmps86
  go_wp2
  go_ret
  exact ⟨rfl, rfl⟩
theorem behind_fr (a : Int) (A : Option Addr) (n c : Nat) (w : World) (h0 : 0 ≤ a) (h1 : a ≤ 4611686018427387968) (hn : n ≤ 1000000) :
    Calls Try.prog 86 #[agp a (.slice A n c)] w fun e w' => e = .returned (.int .i64 (a + n)) ∧ Fr [] w w' :=
  (behind_any a A n c w h0 h1 hn).mono fun _ _ ⟨he, hw⟩ => ⟨he, hw ▸ (Fr.refl _ _).alloc _⟩
theorem next_hp {S : Nat → Prop} {g : Nat} {kv : Value} {h : Hp} {w : World} (m : HP S w g kv h) : Calls Try.prog 42 #[ptr g] w fun e w' => e = .returned (.int .i64 h.next) ∧ w = w' := by
  obtain ⟨ev, L, m⟩ := m
  obtain ⟨c0, c1, c2, c3, c4⟩ := m.cells
  go_enter Try.func42, Try.ntmps42
  go_wp2_with (go_at_call 70; refine (none_hp c4).mono ?_; rintro e w' ⟨rfl, rfl⟩)
  go_ret
  exact ⟨rfl, rfl⟩
def isFin (h : Hp) : Bool := match h.fin with | none => false | some a => a == h.next
theorem done_hp {S : Nat → Prop} {g : Nat} {kv : Value} {h : Hp} {w : World} (m : HP S w g kv h) : Calls Try.prog 79 #[ptr g] w fun e w' => e = .returned (.bool (isFin h)) ∧ Fr [] w w' := by
  obtain ⟨ev, L, m⟩ := m
  obtain ⟨c0, c1, c2, c3, c4⟩ := m.cells
  rcases m.fin with ⟨h1, rfl⟩ | ⟨a, b, h1, rfl, h3, h4⟩
  · have e : isFin h = false := by unfold isFin; rw [h1]
    rw [e]
    have H := Lib.hid h1
    clear e h1
    go_enter Try.func79, Try.ntmps79
    go_wp2_with fail
    go_quiet ((go_at_call 70; exact quiet_left (none_hp c4)))
    go_wp2
    go_ret
    exact ⟨rfl, (Fr.refl _ _).drewN _⟩
  · have e : isFin h = (a == h.next) := by unfold isFin; rw [h1]
    rw [e]
    have H := Lib.hid h1
    clear e h1
    go_enter Try.func79, Try.ntmps79
    go_wp2_with fail
    go_quiet ((go_at_call 70; exact quiet_left (none_hp c4)))
    go_wp2
    go_ret
    exact ⟨rfl, (Fr.refl _ _).drewN _⟩
end Go.Proofs.Ytmgdbbbdhkfdmaa

namespace Go.Proofs.Ytmgdbbbdhkfdmaa
set_option maxRecDepth 100000
open Go.RowKit

theorem info_u8 : (Try.prog.info? 5).map (fun i => (i.zero, i.size, i.bytes)) = some (some (.int .u8 0), 1, 1) := by kernel_rfl
theorem info_pc : (Try.prog.info? 120).map (fun i => (i.zero, i.size, i.bytes)) = some (some (.agg #[.int .i64 0, .slice none 0 0]), 2, 32) := by kernel_rfl
theorem info_i64 : (Try.prog.info? 2).map (fun i => (i.zero, i.size, i.bytes)) = some (some (.int .i64 0), 1, 8) := by kernel_rfl

theorem cell_al {w : World} {a : Addr} {v : Value} (h : w.cell? a = some v) (o : Obj) : (w.alloc o).cell? a = some v := by
  rw [World.cell?_alloc_lt w o _ (World.block_lt_of_cell? w _ h)]; exact h
theorem fr_cell {w w' : World} {a : Addr} {v : Value} (f : Fr [] w w') (h : w.cell? a = some v) : w'.cell? a = some v := (f.cell (World.block_lt_of_cell? w a h) (by simp)).trans h
theorem own_empty (w : World) (e : TypeId) (size : Nat) : (w.alloc (.cells #[] e)).ownsRow 0 e size (.slice (some ⟨w.heap.size, 0, none⟩) 0 0) 0 [] := by
  have := World.ownsRow_lit (base := 0) (e := e) (size := size) w #[] 0 (Nat.zero_le _) (Nat.zero_le _) (by simp)
  simpa using this

theorem cloneB_any {S : Nat → Prop} {v : Value} {l : List Int} (w : World) (h : Byt S w v l) (hl : l.length ≤ 1000000) :
    Calls Try.prog 44 #[v] w fun e w' => ∃ A c, e = .returned (.slice A l.length c) ∧ w'.ownsRow 0 5 1 (.slice A l.length c) l.length (byts l) ∧ Fr [] w w' ∧ (∀ b, (Value.slice A l.length c).ownBlock = some b → w.heap.size ≤ b) := by
  obtain ⟨A, c, rfl, hn, hc⟩ := h.form
  obtain ⟨i0, hi, hz0, hz1, hz2⟩ := info_parts info_u8
  cases A with
  | none =>
    obtain ⟨h0, h1⟩ := Sl.none_ h
    obtain rfl : l = [] := List.eq_nil_of_length_eq_zero h0
    clear h h1 h0
    have qn := fun (w : World) a n c n' c' => Lib.run_eql_slice_nil (P := Try.prog) w 25 5 a n c n' c' Try.underlying25
    go_enter Try.func44, Try.ntmps44
    go_wp2
    go_ret
    exact ⟨none, 0, rfl, World.ownsRow_nil _ _ _ _, Fr.refl _ _, by simp [Value.ownBlock]⟩
  | some ad =>
    have H := Lib.hid h
    have h2 : l.length * 1 ≤ 140737488355328 := by omega
    have h3 : l.length ≤ maxLen := by unfold maxLen; omega
    clear hn hc
    have H2 := Lib.hid h2
    have H3 := Lib.hid h3
    clear h2 h3
    clear h
    have qn := fun (w : World) a n c n' c' => Lib.run_eql_slice_nil (P := Try.prog) w 25 5 a n c n' c' Try.underlying25
    go_enter Try.func44, Try.ntmps44
    go_wp2_with (at_builtin; refine wpList_append_sl _ rfl (.tmp 5) (.tmp 6) 25 rfl 5 i0 (.int .u8 0) 1 1 Try.underlying25 hi hz0 hz1 hz2 rfl (by decide) (.slice (some ⟨w.heap.size, 0, none⟩) 0 0) 0 [] (by rfl) (own_empty _ _ _) S (.slice (some ad) l.length c) l.length (byts l) rfl (Sl.fr H.out ((Fr.refl [] _).alloc _) (by simp)) (byts_one l) (by rw [Nat.zero_add]; exact H3.out) (by rw [Nat.zero_add]; exact H2.out) l.length (Nat.zero_add _) ?_; intro A' c' w' h4 h5 h6)
    go_ret
    refine ⟨A', c', rfl, by simpa using h4, Fr.trans ((Fr.refl [] w).alloc _) h5 (by simp [ob, Value.ownBlock]), fun b hb => ?_⟩
    rcases h6 b hb with h7 | h7
    · simp [Value.ownBlock] at h7; omega
    · simp at h7; omega

theorem cloneP_any {S : Nat → Prop} {kv : Value} {L : List (Pc × Value)} (w : World) (h : Kp 120 S w kv L) (hl : L.length ≤ 1000000) :
    Calls Try.prog 71 #[kv] w fun e w' => ∃ A c, e = .returned (.slice A L.length c) ∧ Kp 120 S w' (.slice A L.length c) L ∧ Fr [] w w' ∧ (∀ b, (Value.slice A L.length c).ownBlock = some b → w.heap.size ≤ b) := by
  obtain ⟨A, c, rfl, hn, hc⟩ := h.form
  obtain ⟨i0, hi, hz0, hz1, hz2⟩ := info_parts info_pc
  cases A with
  | none =>
    have h0 : L.length = 0 := by
      rcases h.own.2 with ⟨_, h⟩ | ⟨g, cap, cur, hv, _⟩
      · exact h
      · cases hv
    obtain rfl : L = [] := List.eq_nil_of_length_eq_zero h0
    clear h h0
    have qn := fun (w : World) a n c n' c' => Lib.run_eql_slice_nil (P := Try.prog) w 112 120 a n c n' c' Try.underlying112
    go_enter Try.func71, Try.ntmps71
    go_wp2
    go_ret
    exact ⟨none, 0, rfl, ⟨World.ownsRow_nil _ _ _ _, by simp⟩, Fr.refl _ _, by simp [Value.ownBlock]⟩
  | some ad =>
    have hs := Sl.of_own (S := fun _ => True) h.own (fun _ _ => trivial)
    have hb := h.byt
    have h1 := h.one
    have h2 : L.length * 32 ≤ 140737488355328 := by omega
    have h3 : L.length ≤ maxLen := by unfold maxLen; omega
    have H := Lib.hid hs
    have HB := Lib.hid hb
    have H1 := Lib.hid h1
    have H2 := Lib.hid h2
    have H3 := Lib.hid h3
    clear h2 h3 h hs hn hc h1 hb
    have qn := fun (w : World) a n c n' c' => Lib.run_eql_slice_nil (P := Try.prog) w 112 120 a n c n' c' Try.underlying112
    go_enter Try.func71, Try.ntmps71
    go_wp2_with (at_builtin; refine wpList_append_sl _ rfl (.tmp 5) (.tmp 6) 112 rfl 120 i0 (.agg #[.int .i64 0, .slice none 0 0]) 2 32 Try.underlying112 hi hz0 hz1 hz2 rfl (by decide) (.slice (some ⟨w.heap.size, 0, none⟩) 0 0) 0 [] (by rfl) (own_empty _ _ _) (fun _ => True) (.slice (some ad) L.length c) L.length (pcs L) rfl (Sl.fr H.out ((Fr.refl [] _).alloc _) (by simp)) H1.out (by rw [Nat.zero_add]; exact H3.out) (by rw [Nat.zero_add]; exact H2.out) L.length (Nat.zero_add _) ?_; intro A' c' w' h4 h5 h6)
    go_ret
    have F : Fr [] w w' := Fr.trans ((Fr.refl [] w).alloc _) h5 (by simp [ob, Value.ownBlock])
    refine ⟨A', c', rfl, ⟨by simpa using h4, fun x hx => (HB.out x hx).fr F (by simp)⟩, F, fun b hb => ?_⟩
    rcases h6 b hb with h7 | h7
    · simp [Value.ownBlock] at h7; omega
    · simp at h7; omega

/-! ### The closures -/
/-- ready$1$1: does it begin no later than Next? -/
theorem r11_any (a : Int) (dv : Value) (g hb : Nat) (n : Int) (w : World) (c0 : w.cell? ⟨hb, 0, none⟩ = some (ptr g)) (c1 : w.cell? ⟨g, 1, none⟩ = some (.int .i64 n)) (d1 : dv.oneCell' = true) (A : Option Addr) (ln c : Nat) (hd : dv = .slice A ln c) :
    Calls Try.prog 97 #[agp a dv, .pointer (some ⟨hb, 0, none⟩)] w fun e w' => e = .returned (.bool (decide (a ≤ n))) ∧ Fr [] w w' := by
  subst hd
  clear d1
  have l0 := World.block_lt_of_cell? w _ c0
  have l1 := World.block_lt_of_cell? w _ c1
  dsimp only at l0 l1
  go_enter Try.func97, Try.ntmps97
  go_wp2_with fail
  go_quiet (fail)
  go_wp2
  go_ret
  exact ⟨rfl, ((Fr.refl _ _).alloc _).drewN _⟩
theorem r12_any (a b : Int) (A B : Option Addr) (ln c ln' c' : Nat) (w : World) :
    Calls Try.prog 98 #[agp a (.slice A ln c), agp b (.slice B ln' c')] w fun e w' => e = .returned (.bool (decide (a < b))) ∧ Fr [] w w' := by
  go_enter Try.func98, Try.ntmps98
  go_wp2
  go_ret
  exact ⟨rfl, ((Fr.refl _ _).alloc _).alloc _⟩
theorem p2_any (a b : Int) (A B : Option Addr) (ln c ln' c' : Nat) (w : World) :
    Calls Try.prog 91 #[agp a (.slice A ln c), agp b (.slice B ln' c')] w fun e w' => e = .returned (.bool false) ∧ Fr [] w w' := by
  go_enter Try.func91, Try.ntmps91
  go_wp2
  go_ret
  exact ⟨rfl, ((Fr.refl _ _).alloc _).alloc _⟩
theorem p1_any (a b : Int) (A B : Option Addr) (ln c ln' c' pb : Nat) (w : World) (c0 : w.cell? ⟨pb, 0, none⟩ = some (.int .i64 b)) (c1 : w.cell? ⟨pb, 1, none⟩ = some (.slice B ln' c')) :
    Calls Try.prog 90 #[agp a (.slice A ln c), .pointer (some ⟨pb, 0, none⟩)] w fun e w' => e = .returned (.bool ((a == b) && decide (ln' ≤ ln))) ∧ Fr [] w w' := by
  have l0 := World.block_lt_of_cell? w _ c0
  dsimp only at l0
  cases h : (a == b)
  · go_enter Try.func90, Try.ntmps90
    go_wp2
    go_ret
    exact ⟨rfl, (Fr.refl _ _).alloc _⟩
  · go_enter Try.func90, Try.ntmps90
    go_wp2
    go_ret
    exact ⟨rfl, (Fr.refl _ _).alloc _⟩
theorem e1_any (a b : Int) (A : Option Addr) (ln c ab : Nat) (w : World) (c0 : w.cell? ⟨ab, 0, none⟩ = some (.int .i64 b)) (h0 : 0 ≤ a) (h1 : a ≤ 4611686018427387968) (hn : ln ≤ 1000000) :
    Calls Try.prog 85 #[agp a (.slice A ln c), .pointer (some ⟨ab, 0, none⟩)] w fun e w' => e = .returned (.bool (decide (b < a + ln))) ∧ Fr [] w w' := by
  go_enter Try.func85, Try.ntmps85
  go_wp2_with fail
  refine wp_region_grew (by kernel_rfl) (by kernel_rfl) ?_
  have q0 := Grew.cell (w := w.alloc (bxp a (.slice A ln c))) (a := ⟨w.heap.size, 0, none⟩) (v := .int .i64 a) ((Blk.new w 120 #[.int .i64 a, .slice A ln c]).cell 0)
  have q1 := Grew.cell (w := w.alloc (bxp a (.slice A ln c))) (a := ⟨w.heap.size, 1, none⟩) (v := .slice A ln c) ((Blk.new w 120 #[.int .i64 a, .slice A ln c]).cell 1)
  have q2 := Grew.cell (w := w.alloc (bxp a (.slice A ln c))) (a := ⟨ab, 0, none⟩) (v := .int .i64 b) (cell_al c0 _)
  repeat (go_big_quiet_step ((go_at_call 86; exact grew_call (behind_fr a A ln c _ h0 h1 hn))))
  refine wpQuiet_nil ?_
  intro W1 f1
  go_wp2
  go_ret
  exact ⟨rfl, ((Fr.refl _ _).alloc _).trans f1 (by simp)⟩
end Go.Proofs.Ytmgdbbbdhkfdmaa

namespace Go.Proofs.Ytmgdbbbdhkfdmaa
set_option maxRecDepth 100000
open Go.RowKit
theorem map_get (L : List (Pc × Value)) (k : Nat) (x : Pc × Value) (h : L[k]? = some x) : (L.map (·.1)).getD k default = x.1 := by
  rw [List.getD_eq_getElem?_getD, List.getElem?_map, h]; rfl

set_option maxHeartbeats 2000000 in
theorem first_ready (S : Nat → Prop) (w : World) (g hb : Nat) (n : Int) (d0 : w.cell? ⟨hb, 0, none⟩ = some (ptr g)) (d1 : w.cell? ⟨g, 1, none⟩ = some (.int .i64 n)) (kv : Value) (L : List (Pc × Value)) (h : Kp 120 S w kv L) (hl : L.length ≤ 1000000) :
    Calls Try.prog 89 #[kv, .func (.func 97) #[] #[.pointer (some ⟨hb, 0, none⟩)], .func (.func 98) #[] #[]] w fun e w' => e = .returned (.int .i64 (bestV (early n) ahead (L.map (·.1)) L.length)) ∧ Fr [] w w' := by
  obtain ⟨KA, KC, rfl, hKn, hKc⟩ := h.form
  go_enter Try.func89, Try.ntmps89
  go_wp2
  go_loopw [7, 12] (fun s7 s12 wr => ∃ k : Nat, k ≤ L.length ∧ s12 = .int .i64 k ∧ s7 = .int .i64 (bestV (early n) ahead (L.map (·.1)) k) ∧ Fr [] w wr) (fun _ s12 _ => L.length - (intOf s12).toNat)
  case atStart => exact ⟨0, by omega, rfl, rfl, Fr.refl _ _⟩
  case round =>
    obtain ⟨k, hk, rfl, rfl, fk⟩ := hrel
    have hbd := best_bd (early n) ahead (L.map (·.1)) k
    have hsucc := best_succ (early n) ahead (L.map (·.1)) k
    by_cases hlt : k < L.length
    · have hk2 := h.fr fk (by simp) (by simp)
      obtain ⟨b, _, x, hv, hx, c0, c1, hb⟩ := hk2.at_ hlt
      injection hv with hv _ _
      subst hv
      rw [map_get L k x hx] at hsucc
      obtain ⟨A, c, hxv, hnc, _⟩ := hb.form
      rw [hxv] at c1
      have hxx : (early n) x.1 = decide (x.1.at_ ≤ n) := rfl
      have hlb := World.block_lt_of_cell? wr _ c0
      dsimp only at hlb
      have d0' := fr_cell fk d0
      have d1' := fr_cell fk d1
      have fW := (Fr.refl [] wr).alloc (bxp x.1.at_ (.slice A x.1.d.length c))
      have q0 := Grew.cell (cell_al d0' (bxp x.1.at_ (.slice A x.1.d.length c)))
      have q1 := Grew.cell (cell_al d1' (bxp x.1.at_ (.slice A x.1.d.length c)))
      have bn := Blk.new wr 120 #[.int .i64 x.1.at_, .slice A x.1.d.length c]
      have q2 := Grew.cell (w := wr.alloc (bxp x.1.at_ (.slice A x.1.d.length c))) (a := ⟨wr.heap.size, 0, none⟩) (bn.cell 0)
      have q3 := Grew.cell (w := wr.alloc (bxp x.1.at_ (.slice A x.1.d.length c))) (a := ⟨wr.heap.size, 1, none⟩) (bn.cell 1)
      have Hx := Lib.hid hx
      have Hk2 := Lib.hid hk2
      have Hxv := Lib.hid hxv
      have Hfk := Lib.hid fk
      have HfW := Lib.hid fW
      clear hx hk2 hxv hb fW fk bn hnc
      have hc1 : ∀ p : Grew (wr.alloc (bxp x.1.at_ (.slice A x.1.d.length c))), Calls Try.prog 97 #[agp x.1.at_ (.slice A x.1.d.length c), .pointer (some ⟨hb, 0, none⟩)] p.W fun e w'' => e = .returned (.bool ((early n) x.1)) ∧ ∃ q : Grew (wr.alloc (bxp x.1.at_ (.slice A x.1.d.length c))), w'' = q.W := fun p => grew_call (r11_any x.1.at_ _ g hb n _ (q0 p) (q1 p) rfl A x.1.d.length c rfl)
      generalize hbb : bestV (early n) ahead (L.map (·.1)) k = bb at *
      have Hc1 := Lib.hid hc1
      clear hc1 hxx
      have HS := Lib.hid hsucc
      clear hsucc hbb
      obtain ⟨hb0, hb1⟩ := hbd
      cases hi : (early n) x.1
      · rw [hi] at Hc1 HS
        clear hi
        go_upto_region 5 with fail
        refine wp_region_grew (by kernel_rfl) (by kernel_rfl) ?_
        repeat (go_big_quiet_step ((go_at_call 97; exact Hc1.out _)))
        refine wpQuiet_nil ?_
        intro W1 f1
        go_wp2_with fail
        go_roundw
        case rel =>
          have e := HS.out
          simp at e
          exact ⟨k + 1, by omega, by go_num, by rw [e], Hfk.out.trans (HfW.out.trans f1 (by simp)) (by simp)⟩
        case measure => simp [intOf]; omega
      · rw [hi] at Hc1 HS
        clear hi
        by_cases hb2 : bb < 0
        · have e2 : decide (bb < 0) = true := by simpa using hb2
          rw [e2] at HS
          go_upto_region 5 with fail
          refine wp_region_grew (by kernel_rfl) (by kernel_rfl) ?_
          repeat (go_big_quiet_step ((go_at_call 97; exact Hc1.out _)))
          refine wpQuiet_nil ?_
          intro W1 f1
          go_wp2_with fail
          go_roundw
          case rel =>
            have e := HS.out
            simp at e
            exact ⟨k + 1, by omega, by go_num, by rw [e], Hfk.out.trans (HfW.out.trans f1 (by simp)) (by simp)⟩
          case measure => simp [intOf]; omega
        · have e2 : decide (bb < 0) = false := by simpa using hb2
          have hb3 : 0 ≤ bb := by omega
          have hb4 : bb.toNat < L.length := by omega
          have hb5 : bb < (L.length : Int) := by omega
          obtain ⟨_, _, y, hv, hy, c2, c3, hby⟩ := Hk2.out.at_ hb4
          injection hv with hv _ _
          injection hv with hv
          injection hv with hv _ _
          subst hv
          rw [e2] at HS
          rw [map_get L _ y hy] at HS
          obtain ⟨A2, c4, hyv, _, _⟩ := hby.form
          rw [hyv] at c3
          have q4 := Grew.cell (cell_al c2 (bxp x.1.at_ (.slice A x.1.d.length c)))
          have q5 := Grew.cell (cell_al c3 (bxp x.1.at_ (.slice A x.1.d.length c)))
          have Hy := Lib.hid hy
          have Hyv := Lib.hid hyv
          clear hy hyv hby
          have hc2 : ∀ p : Grew (wr.alloc (bxp x.1.at_ (.slice A x.1.d.length c))), Calls Try.prog 98 #[agp x.1.at_ (.slice A x.1.d.length c), agp y.1.at_ (.slice A2 y.1.d.length c4)] p.W fun e w'' => e = .returned (.bool (ahead x.1 y.1)) ∧ ∃ q : Grew (wr.alloc (bxp x.1.at_ (.slice A x.1.d.length c))), w'' = q.W := fun p => grew_call (r12_any _ _ _ _ _ _ _ _ _)
          have Hc2 := Lib.hid hc2
          clear hc2
          clear hb2
          cases hi : ahead x.1 y.1
          · rw [hi] at Hc2 HS
            clear hi
            go_upto_region 5 with fail
            refine wp_region_grew (by kernel_rfl) (by kernel_rfl) ?_
            repeat (go_big_quiet_step (first | (go_at_call 97; exact Hc1.out _) | (go_at_call 98; exact Hc2.out _)))
            refine wpQuiet_nil ?_
            intro W1 f1
            go_wp2_with fail
            go_roundw
            case rel =>
              have e := HS.out
              simp at e
              exact ⟨k + 1, by omega, by go_num, by rw [e], Hfk.out.trans (HfW.out.trans f1 (by simp)) (by simp)⟩
            case measure => simp [intOf]; omega
          · rw [hi] at Hc2 HS
            clear hi
            go_upto_region 5 with fail
            refine wp_region_grew (by kernel_rfl) (by kernel_rfl) ?_
            repeat (go_big_quiet_step (first | (go_at_call 97; exact Hc1.out _) | (go_at_call 98; exact Hc2.out _)))
            refine wpQuiet_nil ?_
            intro W1 f1
            go_wp2_with fail
            go_roundw
            case rel =>
              have e := HS.out
              simp at e
              exact ⟨k + 1, by omega, by go_num, by rw [e], Hfk.out.trans (HfW.out.trans f1 (by simp)) (by simp)⟩
            case measure => simp [intOf]; omega
    · obtain rfl : L.length = k := by omega
      go_wp2_with fail
      go_ret
      exact ⟨rfl, fk⟩

set_option maxHeartbeats 2000000 in
theorem first_put (S : Nat → Prop) (w : World) (pb : Nat) (pa : Int) (B : Option Addr) (ln' c' : Nat) (d0 : w.cell? ⟨pb, 0, none⟩ = some (.int .i64 pa)) (d1 : w.cell? ⟨pb, 1, none⟩ = some (.slice B ln' c')) (kv : Value) (L : List (Pc × Value)) (h : Kp 120 S w kv L) (hl : L.length ≤ 1000000) :
    Calls Try.prog 89 #[kv, .func (.func 90) #[] #[.pointer (some ⟨pb, 0, none⟩)], .func (.func 91) #[] #[]] w fun e w' => e = .returned (.int .i64 (bestV (longer pa ln') (fun _ _ => false) (L.map (·.1)) L.length)) ∧ Fr [] w w' := by
  obtain ⟨KA, KC, rfl, hKn, hKc⟩ := h.form
  go_enter Try.func89, Try.ntmps89
  go_wp2
  go_loopw [7, 12] (fun s7 s12 wr => ∃ k : Nat, k ≤ L.length ∧ s12 = .int .i64 k ∧ s7 = .int .i64 (bestV (longer pa ln') (fun _ _ => false) (L.map (·.1)) k) ∧ Fr [] w wr) (fun _ s12 _ => L.length - (intOf s12).toNat)
  case atStart => exact ⟨0, by omega, rfl, rfl, Fr.refl _ _⟩
  case round =>
    obtain ⟨k, hk, rfl, rfl, fk⟩ := hrel
    have hbd := best_bd (longer pa ln') (fun _ _ => false) (L.map (·.1)) k
    have hsucc := best_succ (longer pa ln') (fun _ _ => false) (L.map (·.1)) k
    by_cases hlt : k < L.length
    · have hk2 := h.fr fk (by simp) (by simp)
      obtain ⟨b, _, x, hv, hx, c0, c1, hb⟩ := hk2.at_ hlt
      injection hv with hv _ _
      subst hv
      rw [map_get L k x hx] at hsucc
      obtain ⟨A, c, hxv, hnc, _⟩ := hb.form
      rw [hxv] at c1
      have hxx : (longer pa ln') x.1 = ((x.1.at_ == pa) && decide (ln' ≤ x.1.d.length)) := rfl
      have hlb := World.block_lt_of_cell? wr _ c0
      dsimp only at hlb
      have d0' := fr_cell fk d0
      have d1' := fr_cell fk d1
      have fW := (Fr.refl [] wr).alloc (bxp x.1.at_ (.slice A x.1.d.length c))
      have q0 := Grew.cell (cell_al d0' (bxp x.1.at_ (.slice A x.1.d.length c)))
      have q1 := Grew.cell (cell_al d1' (bxp x.1.at_ (.slice A x.1.d.length c)))
      have bn := Blk.new wr 120 #[.int .i64 x.1.at_, .slice A x.1.d.length c]
      have q2 := Grew.cell (w := wr.alloc (bxp x.1.at_ (.slice A x.1.d.length c))) (a := ⟨wr.heap.size, 0, none⟩) (bn.cell 0)
      have q3 := Grew.cell (w := wr.alloc (bxp x.1.at_ (.slice A x.1.d.length c))) (a := ⟨wr.heap.size, 1, none⟩) (bn.cell 1)
      have Hx := Lib.hid hx
      have Hk2 := Lib.hid hk2
      have Hxv := Lib.hid hxv
      have Hfk := Lib.hid fk
      have HfW := Lib.hid fW
      clear hx hk2 hxv hb fW fk bn hnc
      have hc1 : ∀ p : Grew (wr.alloc (bxp x.1.at_ (.slice A x.1.d.length c))), Calls Try.prog 90 #[agp x.1.at_ (.slice A x.1.d.length c), .pointer (some ⟨pb, 0, none⟩)] p.W fun e w'' => e = .returned (.bool ((longer pa ln') x.1)) ∧ ∃ q : Grew (wr.alloc (bxp x.1.at_ (.slice A x.1.d.length c))), w'' = q.W := fun p => grew_call (p1_any x.1.at_ pa A B x.1.d.length c ln' c' pb _ (q0 p) (q1 p))
      generalize hbb : bestV (longer pa ln') (fun _ _ => false) (L.map (·.1)) k = bb at *
      have Hc1 := Lib.hid hc1
      clear hc1 hxx
      have HS := Lib.hid hsucc
      clear hsucc hbb
      obtain ⟨hb0, hb1⟩ := hbd
      cases hi : (longer pa ln') x.1
      · rw [hi] at Hc1 HS
        clear hi
        go_upto_region 5 with fail
        refine wp_region_grew (by kernel_rfl) (by kernel_rfl) ?_
        repeat (go_big_quiet_step ((go_at_call 90; exact Hc1.out _)))
        refine wpQuiet_nil ?_
        intro W1 f1
        go_wp2_with fail
        go_roundw
        case rel =>
          have e := HS.out
          simp at e
          exact ⟨k + 1, by omega, by go_num, by rw [e], Hfk.out.trans (HfW.out.trans f1 (by simp)) (by simp)⟩
        case measure => simp [intOf]; omega
      · rw [hi] at Hc1 HS
        clear hi
        by_cases hb2 : bb < 0
        · have e2 : decide (bb < 0) = true := by simpa using hb2
          rw [e2] at HS
          go_upto_region 5 with fail
          refine wp_region_grew (by kernel_rfl) (by kernel_rfl) ?_
          repeat (go_big_quiet_step ((go_at_call 90; exact Hc1.out _)))
          refine wpQuiet_nil ?_
          intro W1 f1
          go_wp2_with fail
          go_roundw
          case rel =>
            have e := HS.out
            simp at e
            exact ⟨k + 1, by omega, by go_num, by rw [e], Hfk.out.trans (HfW.out.trans f1 (by simp)) (by simp)⟩
          case measure => simp [intOf]; omega
        · have e2 : decide (bb < 0) = false := by simpa using hb2
          have hb3 : 0 ≤ bb := by omega
          have hb4 : bb.toNat < L.length := by omega
          have hb5 : bb < (L.length : Int) := by omega
          obtain ⟨_, _, y, hv, hy, c2, c3, hby⟩ := Hk2.out.at_ hb4
          injection hv with hv _ _
          injection hv with hv
          injection hv with hv _ _
          subst hv
          rw [e2] at HS
          skip
          obtain ⟨A2, c4, hyv, _, _⟩ := hby.form
          rw [hyv] at c3
          have q4 := Grew.cell (cell_al c2 (bxp x.1.at_ (.slice A x.1.d.length c)))
          have q5 := Grew.cell (cell_al c3 (bxp x.1.at_ (.slice A x.1.d.length c)))
          have Hy := Lib.hid hy
          have Hyv := Lib.hid hyv
          clear hy hyv hby
          have hc2 : ∀ p : Grew (wr.alloc (bxp x.1.at_ (.slice A x.1.d.length c))), Calls Try.prog 91 #[agp x.1.at_ (.slice A x.1.d.length c), agp y.1.at_ (.slice A2 y.1.d.length c4)] p.W fun e w'' => e = .returned (.bool ((fun _ _ => false) x.1 y.1)) ∧ ∃ q : Grew (wr.alloc (bxp x.1.at_ (.slice A x.1.d.length c))), w'' = q.W := fun p => grew_call (p2_any _ _ _ _ _ _ _ _ _)
          have Hc2 := Lib.hid hc2
          clear hc2
          clear hb2
          go_upto_region 5 with fail
          refine wp_region_grew (by kernel_rfl) (by kernel_rfl) ?_
          repeat (go_big_quiet_step (first | (go_at_call 90; exact Hc1.out _) | (go_at_call 91; exact Hc2.out _)))
          refine wpQuiet_nil ?_
          intro W1 f1
          go_wp2_with fail
          go_roundw
          case rel =>
            have e := HS.out
            simp at e
            exact ⟨k + 1, by omega, by go_num, by rw [e], Hfk.out.trans (HfW.out.trans f1 (by simp)) (by simp)⟩
          case measure => simp [intOf]; omega
    · obtain rfl : L.length = k := by omega
      go_wp2_with fail
      go_ret
      exact ⟨rfl, fk⟩
end Go.Proofs.Ytmgdbbbdhkfdmaa

namespace Go.Proofs.Ytmgdbbbdhkfdmaa
set_option maxRecDepth 100000
open Go.RowKit

abbrev hpa (m n : Int) (kv ev : Value) : Array Value := #[.int .i64 m, .int .i64 n, kv, ev, .bool true]

theorem add_lit' (b o k : Nat) : (⟨b, o, none⟩ : Addr).add k = ⟨b, o + k, none⟩ := by unfold Addr.add; split <;> simp_all

set_option maxHeartbeats 1000000 in
theorem take_any (S : Nat → Prop) (w : World) (g : Nat) (m n : Int) (kv ev : Value) (out : List Int) (oA : Option Addr) (oc : Nat) (p : Pc) (dv : Value)
    (hb : Blk w g 115 (hpa m n kv ev)) (ho : w.ownsRow 0 5 1 (.slice oA out.length oc) out.length (byts out)) (hp : Byt S w dv p.d) (hS : ∀ b, S b → b < w.heap.size)
    (h0 : 0 ≤ p.at_) (h1 : p.at_ ≤ n) (h2 : n ≤ 4611686018427387968) (h3 : p.d.length ≤ 64) (h4 : out.length ≤ 100000) :
    Calls Try.prog 87 #[ptr g, .slice oA out.length oc, agp p.at_ dv] w fun e w' => ∃ A c, e = .returned (.slice A (out ++ (takeV n p).1).length c) ∧
      w'.ownsRow 0 5 1 (.slice A (out ++ (takeV n p).1).length c) (out ++ (takeV n p).1).length (byts (out ++ (takeV n p).1)) ∧
      Fr (g :: ob (.slice oA out.length oc)) w w' ∧ Blk w' g 115 (hpa m (takeV n p).2 kv ev) ∧
      (∀ b, (Value.slice A (out ++ (takeV n p).1).length c).ownBlock = some b → (Value.slice oA out.length oc).ownBlock = some b ∨ (w.heap.size ≤ b ∧ b < w'.heap.size)) := by
  have c1 : w.cell? ⟨g, 1, none⟩ = some (.int .i64 n) := by simpa using hb.cell 1
  have z1 := hb.frozen 1
  have hg := hb.lt
  obtain ⟨A, c, rfl, hnc, hcm⟩ := hp.form
  unfold takeV Pc.beh
  by_cases hle : p.at_ + (p.d.length : Int) ≤ n
  · rw [if_pos hle]
    have H := Lib.hid ho
    have HB := Lib.hid hb
    clear ho hb
    go_enter Try.func87, Try.ntmps87
    go_wp2_with fail
    have bn := Blk.new w 120 #[.int .i64 p.at_, .slice A p.d.length c]
    have q0 := Grew.cell (w := w.alloc (bxp p.at_ (.slice A p.d.length c))) (a := ⟨w.heap.size, 0, none⟩) (bn.cell 0)
    have q1 := Grew.cell (w := w.alloc (bxp p.at_ (.slice A p.d.length c))) (a := ⟨w.heap.size, 1, none⟩) (bn.cell 1)
    have q2 := Grew.cell (cell_al c1 (bxp p.at_ (.slice A p.d.length c)))
    refine wp_region_grew (by kernel_rfl) (by kernel_rfl) ?_
    repeat (go_big_quiet_step ((go_at_call 86; exact grew_call (behind_fr p.at_ A p.d.length c _ h0 (by omega) (by omega)))))
    refine wpQuiet_nil ?_
    intro W1 f1
    go_wp2_with fail
    go_ret
    have F : Fr [] w W1 := ((Fr.refl _ _).alloc _).trans f1 (by simp)
    refine ⟨oA, oc, by simp, ?_, F.mono (by simp), HB.out.fr F (by simp), ?_⟩
    · simpa using own_fr H.out F (by simp)
    · intro b hb
      exact .inl (by simpa using hb)
  · rw [if_neg hle]
    obtain ⟨b, o, rfl, hSb, _⟩ := hp.at_ (k := 0) (by omega)
    obtain ⟨k, hk⟩ : ∃ k : Nat, n - p.at_ = (k : Int) := ⟨(n - p.at_).toNat, by omega⟩
    have hkn : k < p.d.length := by omega
    have H := Lib.hid ho
    have HB := Lib.hid hb
    have HP := Lib.hid hp
    have hck : ¬ c = k := by omega
    clear ho hb hp
    go_enter Try.func87, Try.ntmps87
    go_wp2_with fail
    have bn := Blk.new w 120 #[.int .i64 p.at_, .slice (some ⟨b, o, none⟩) p.d.length c]
    have q0 := Grew.cell (w := w.alloc (bxp p.at_ (.slice (some ⟨b, o, none⟩) p.d.length c))) (a := ⟨w.heap.size, 0, none⟩) (bn.cell 0)
    have q1 := Grew.cell (w := w.alloc (bxp p.at_ (.slice (some ⟨b, o, none⟩) p.d.length c))) (a := ⟨w.heap.size, 1, none⟩) (bn.cell 1)
    have q2 := Grew.cell (cell_al c1 (bxp p.at_ (.slice (some ⟨b, o, none⟩) p.d.length c)))
    have hle' : n < p.at_ + (p.d.length : Int) := by omega
    refine wp_region_grew (by kernel_rfl) (by kernel_rfl) ?_
    repeat (go_big_quiet_step ((go_at_call 86; exact grew_call (behind_fr p.at_ _ p.d.length c _ h0 (by omega) (by omega)))))
    refine wpQuiet_nil ?_
    intro W1 f1
    have e0 := fr_cell f1 (bn.cell 0)
    have e1 := fr_cell f1 (bn.cell 1)
    have e2 := fr_cell f1 (cell_al c1 (bxp p.at_ (.slice (some ⟨b, o, none⟩) p.d.length c)))
    have F1 : Fr [] w W1 := ((Fr.refl _ _).alloc _).trans f1 (by simp)
    have Hs := Lib.hid F1.size
    have Hbn := Lib.hid bn
    have Hf1 := Lib.hid f1
    clear q0 q1 q2 bn f1
    go_wp2_with fail
    have hw : IntKind.i64.wrap (k : Int) = (k : Int) := IntWalk.i64_in _ (by omega)
    have hk0 : (0 : Int) ≤ (k : Int) := by omega
    have hk1 : (k : Int) ≤ (p.d.length : Int) := by omega
    have hk2 : (p.d.length : Int) ≤ (c : Int) := by omega
    go_still_tail 11, (by kernel_rfl)
    change wpList Try.prog _ _ _ _ W1.drew
    obtain ⟨i0, hi, hz0, hz1, hz2⟩ := info_parts info_u8
    have hcut := (HP.out.fr F1 (by simp)).cut (k := k) (by omega)
    rw [if_neg hck] at hcut
    have hob : ∀ x, (Value.slice oA out.length oc).ownBlock = some x → x ≠ w.heap.size ∧ x ≠ g := fun x hx => by
      have h5 := own_lt H.out hx
      refine ⟨by omega, ?_⟩
      rintro rfl
      exact own_ne H.out HB.out (by decide) hx
    have hl : out.length + (p.d.drop k).length ≤ maxLen := by unfold maxLen; simp; omega
    have hl2 : (out.length + (p.d.drop k).length) * 1 ≤ 140737488355328 := by simp; omega
    have ho1 := own_fr H.out F1 (by simp)
    have hbw : b < w.heap.size := hS b hSb
    have hbo : (Value.slice oA out.length oc).ownBlock ≠ some b ∨ True := .inr trivial
    have Hl := Lib.hid hl
    have Hl2 := Lib.hid hl2
    have Hcut := Lib.hid hcut
    have Hob := Lib.hid hob
    clear hl hl2 hcut hob
    simp only [Option.map_some] at Hcut
    obtain ⟨N, hN⟩ : ∃ N, out.length + (p.d.drop k).length = N := ⟨_, rfl⟩
    have HN := Lib.hid hN
    clear hN
    refine wpList_append_sl _ rfl (.tmp 15) (.tmp 25) 25 rfl 5 i0 (.int .u8 0) 1 1 Try.underlying25 hi hz0 hz1 hz2 rfl (by decide) (.slice oA out.length oc) out.length (byts out) rfl ho1 S _ (p.d.drop k).length (byts (p.d.drop k)) rfl ?_ (byts_one _) Hl.out Hl2.out N HN.out ?_
    · have := Hcut.out.fr ((Fr.refl [] W1).drew) (by simp)
      rw [add_lit'] at this
      exact this
    intro A' c' W2 h5 h6 h7
    rw [byts_app] at h5
    have f2 : Fr (ob (.slice oA out.length oc)) W1 W2 := ((Fr.refl (ob (.slice oA out.length oc)) W1).drew).trans h6 (fun x hx => .inl hx)
    have bn2 := (Hbn.out.fr Hf1.out (by simp)).fr f2 (fun hm => (Hob.out _ (mem_ob.1 hm)).1 rfl)
    have hb2 := (HB.out.fr F1 (by simp)).fr f2 (fun hm => (Hob.out _ (mem_ob.1 hm)).2 rfl)
    have F2 : Fr (g :: ob (.slice oA out.length oc)) w W2 := (F1.mono (by simp)).trans f2 (fun x hx => .inl (List.mem_cons_of_mem _ hx))
    have m0 : W2.cell? ⟨w.heap.size, 0, none⟩ = some (.int .i64 p.at_) := bn2.cell 0
    have m1 : W2.cell? ⟨w.heap.size, 1, none⟩ = some (.slice (some ⟨b, o, none⟩) p.d.length c) := bn2.cell 1
    have m2 : W2.cell? ⟨g, 1, none⟩ = some (.int .i64 n) := hb2.cell 1
    have m3 : W2.frozen? ⟨g, 1, none⟩ = false := hb2.frozen 1
    have m4 := hb2.lt
    have H5 := Lib.hid h5
    have H7 := Lib.hid h7
    have HB2 := Lib.hid hb2
    have HF2 := Lib.hid F2
    clear h5 h6 h7 hb2 F2 f2 bn2 F1 ho1 hw hk0 hk1 hk2 e0 e1 e2 z1 c1
    go_wp2_with fail
    refine (behind_any p.at_ _ p.d.length c _ h0 (by omega) (by omega)).mono ?_
    rintro e w3 ⟨rfl, rfl⟩
    go_wp2_with fail
    go_ret
    have ek : (n - p.at_).toNat = k := by omega
    dsimp only
    rw [ek]
    have hN2 : (out ++ p.d.drop k).length = N := by rw [List.length_append]; exact HN.out
    rw [hN2]
    have F3 := (HF2.out.setCell (p := ⟨g, 1, none⟩) (.inl (by simp)) (.int .i64 (p.at_ + p.d.length))).alloc (bxp p.at_ (.slice (some ⟨b, o, none⟩) p.d.length c))
    have hgb : ∀ x, (Value.slice A' N c').ownBlock = some x → x ≠ g := fun x hx => by
      rintro rfl
      exact own_ne H5.out HB2.out (by decide) hx
    refine ⟨A', c', rfl, ?_, F3, ?_, fun x hx => ?_⟩
    · exact own_fr (own_fr H5.out ((Fr.refl [g] W2).setCell (p := ⟨g, 1, none⟩) (.inl (by simp)) _) (fun x hx => by simpa using hgb x hx)) ((Fr.refl [] _).alloc _) (by simp)
    · have := (HB2.out.set_ 1 (.int .i64 (p.at_ + p.d.length))).alloc (bxp p.at_ (.slice (some ⟨b, o, none⟩) p.d.length c))
      simpa using this
    · rcases H7.out x hx with h8 | h8
      · exact .inl h8
      · refine .inr ⟨?_, ?_⟩
        · have := Hs.out
          have h9 : W1.heap.size ≤ x := h8.1
          omega
        · have h9 : x < W2.heap.size := h8.2
          simp [World.setCell]
          omega
end Go.Proofs.Ytmgdbbbdhkfdmaa

namespace Go.Proofs.Ytmgdbbbdhkfdmaa
set_option maxRecDepth 100000
open Go.RowKit

theorem own_beyond {g c n : Nat} {e : TypeId} {size : Nat} {xs : List Value} : ∀ (zs : List Value) (j : Nat) (w : World), w.ownsRow 0 e size (.slice (some ⟨g, 0, none⟩) n c) n xs → n * size ≤ j → (w.setCells g j zs).ownsRow 0 e size (.slice (some ⟨g, 0, none⟩) n c) n xs
  | [], _, _, h, _ => h
  | z :: zs, j, w, h, hj => by
    rw [World.setCells]
    refine own_beyond zs (j + 1) _ ?_ (by omega)
    have := h.stored j z
    rw [List.set_eq_of_length_le (by have := h.1; omega)] at this
    exact this.1
theorem own_take {w : World} {g c n k : Nat} {e : TypeId} {size : Nat} {xs : List Value} (h : w.ownsRow 0 e size (.slice (some ⟨g, 0, none⟩) n c) n xs) (hk : k ≤ n) : w.ownsRow 0 e size (.slice (some ⟨g, 0, none⟩) k c) k (xs.take (k * size)) := by
  rcases h.2 with ⟨h', _⟩ | ⟨g', cap', cur, h', hb, hg, hnc, hcm, hs, ht⟩
  · simp at h'
  · simp only [Value.slice.injEq, Option.some.injEq, Addr.mk.injEq, and_true, true_and] at h'
    obtain ⟨rfl, rfl⟩ := h'
    have hm : k * size ≤ n * size := Nat.mul_le_mul_right _ hk
    exact ⟨by rw [List.length_take, h.1]; exact Nat.min_eq_left hm, .inr ⟨g, c, cur, rfl, hb, hg, by omega, hcm, hs, by rw [← ht, List.take_take, Nat.min_eq_left hm]⟩⟩
theorem own_there {w : World} {g c n : Nat} {e : TypeId} {size : Nat} {xs : List Value} (h : w.ownsRow 0 e size (.slice (some ⟨g, 0, none⟩) n c) n xs) (j : Nat) (hj : j < c * size) : (w.cell? ⟨g, j, none⟩).isSome = true := by
  rcases h.2 with ⟨h', _⟩ | ⟨g', cap', cur, h', _, hg, _, _, hs, _⟩
  · simp at h'
  · simp only [Value.slice.injEq, Option.some.injEq, Addr.mk.injEq, and_true, true_and] at h'
    obtain ⟨rfl, rfl⟩ := h'
    rw [cell_of_row w g j cur e (0, 0) hg]
    simp [show j < cur.size by omega]
theorem run_clear_last {P : Program} {w : World} (t ty e : TypeId) (z : Value) (ht : P.underlying t = some (.slice e)) (hv : ∀ w, (zeroValue e).run P w = .ok z w) (zs : List Value) (hz : (Builtin.zeroCells z.cells 1).toList = zs) (hzl : zs.length = 2) (h1 : ∀ u ∈ zs, u.oneCell' = true)
    {g c n : Nat} {xs : List Value} (h : w.ownsRow 0 e 2 (.slice (some ⟨g, 0, none⟩) n c) n xs) (hc : n + 1 ≤ c) (c' : Nat) :
    ∃ w', (Builtin.clear_ #[t] ty #[.slice (some ⟨g, n * 2, none⟩) 1 c']).run P w = .ok (.tuple #[]) w' ∧ w'.ownsRow 0 e 2 (.slice (some ⟨g, 0, none⟩) n c) n xs ∧ Fr [g] w w' := by
  have hst := run_storeCells_cells (P := P) g (n * 2) zs 0 w (fun j hj => own_there h _ (by omega)) (fun j _ => h.frozenAt _) h1
  simp only [Nat.add_zero] at hst
  refine ⟨w.setCells g (n * 2) zs, ?_, own_beyond zs (n * 2) w h (Nat.le_refl _), setCells_fr g zs (n * 2) w⟩
  simp [Builtin.clear_, run_underlying ht, hv, hz, hst, Result.andThen]

set_option maxHeartbeats 1000000 in
theorem del_any (S : Nat → Prop) (w : World) (kb c i m : Nat) (L : List (Pc × Value)) (hL : L.length = i + 1 + m) (h : Kp 120 S w (.slice (some ⟨kb, 0, none⟩) L.length c) L) (hk : ¬ S kb) (hm : L.length ≤ 1000000) :
    Calls Try.prog 99 #[.slice (some ⟨kb, 0, none⟩) (i + 1 + m) c, .int .i64 i, .int .i64 (i + 1)] w fun e w' => e = .returned (.slice (some ⟨kb, 0, none⟩) (i + m) c) ∧
      Kp 120 S w' (.slice (some ⟨kb, 0, none⟩) (i + m) c) (L.eraseIdx i) ∧ Fr [kb] w w' := by
  obtain ⟨i0, hi, hz0, hz1, hz2⟩ := info_parts info_pc
  obtain ⟨hnc, hcm⟩ : i + 1 + m ≤ c ∧ c ≤ maxLen := by
    obtain ⟨A, c', hv, h1, h2⟩ := h.form
    injection hv with _ _ hc
    subst hc
    omega
  have hzv : ∀ w, (zeroValue 120).run Try.prog w = .ok (.agg #[.int .i64 0, .slice none 0 0]) w := fun w => by kernel_rfl
  have hn1 : i + 1 + m ≤ 1000000 := by omega
  have ho := h.own
  rw [hL] at ho
  have hpre : w.ownsRow 0 120 2 (.slice (some ⟨kb, 0, none⟩) i c) i ((pcs L).take (i * 2)) := own_take ho (by omega)
  have HL := Lib.hid hL
  have H := Lib.hid h
  have Hpre := Lib.hid hpre
  have Ho := Lib.hid ho
  unfold maxLen at hcm
  clear hL h hpre ho
  by_cases hcj : c = i + 1
  · obtain rfl : m = 0 := by omega
    subst hcj
    simp only [Nat.add_zero, Int.natCast_zero, Int.add_zero] at *
    go_enter Try.func99, Try.ntmps99
    go_wp2_with fail
    have k0 : (0 : Int) ≤ (i : Int) := by omega
    have k1' : (i : Int) ≤ (i : Int) + 1 := by omega
    have k1'' : (i : Int) + 1 ≤ (i : Int) + 1 := by omega
    have k1 : (i : Int) ≤ ((i + 1 : Nat) : Int) := by omega
    have k2 : (0 : Int) ≤ (i : Int) + 1 := by omega
    have k3 : ((i : Int) + 1) ≤ (i : Int) + 1 := by omega
    have k4 : (i : Int) + 1 ≤ ((i + 1 : Nat) : Int) := by omega
    have k5 : ((i : Int) + 1).toNat = i + 1 := by omega
    have k6 : i ≤ i + 1 := by omega
    have k7 : i + 1 ≤ i + 1 := by omega
    go_still_tail 6, (by kernel_rfl)
    have hone : ∀ u ∈ (pcs L).drop ((i + 1) * 2), u.oneCell' = true := fun u hu => H.out.one u (List.mem_of_mem_drop hu)
    have hnl : ((pcs L).drop ((i + 1) * 2)).length = 0 * 2 := by rw [List.length_drop, pcs_len, HL.out]; omega
    refine wpList_append_fits_any w.drew rfl (.tmp 22) (.tmp 25) 112 rfl 0 120 i0 2 Try.underlying112 hi hz1 kb i (i + 1) ((pcs L).take (i * 2)) rfl Hpre.out (some ⟨kb, 0, none⟩) 0 0 ((pcs L).drop ((i + 1) * 2)) rfl hnl (by simp) ?_ hone (by omega) ?_
    · intro ad he j u hj
      have h0 : ((pcs L).drop ((i + 1) * 2)).length = 0 := by omega
      rw [List.eq_nil_of_length_eq_zero h0] at hj
      simp at hj
    intro w2 h5 h6
    have ed : (pcs L).take (i * 2) ++ (pcs L).drop ((i + 1) * 2) = pcs (L.eraseIdx i) := by
      rw [pcs_take, pcs_drop, pcs_app, List.eraseIdx_eq_take_drop_succ]
    rw [ed] at h5
    simp only [Nat.add_zero] at h5
    have f2 : Fr [kb] w w2 := ⟨h6.os, h6.tape, h6.output, h6.size, fun x hx hn => h6.block x hx (by simpa using hn)⟩
    obtain ⟨w3, hrun, h7, h8⟩ := run_clear_last (P := Try.prog) 112 0 120 (.agg #[.int .i64 0, .slice none 0 0]) Try.underlying112 hzv [.int .i64 0, .slice none 0 0] (by kernel_rfl) rfl (by decide) h5 (by omega) 1
    have H7 := Lib.hid h7
    have F3 := Lib.hid (f2.trans h8 (by simp))
    have Hone := Lib.hid hone
    have Hnl := Lib.hid hnl
    have Hed := Lib.hid ed
    clear h5 h6 f2 hone hnl ed h7 h8
    have k8 : i ≤ i + 1 := by omega
    have k9 : (i : Int) ≤ (i : Int) + 1 := by omega
    have k10 : i + 1 - (i) = 1 := by omega
    have k11 : ((i : Int) + 1).toNat = i + 1 := by omega
    have k12 : ((i : Int)).toNat = i := by omega
    have k13 : ¬ i + 1 = i := by omega
    go_wp2_with fail
    go_ret
    exact ⟨rfl, ⟨by rw [show (L.eraseIdx i).length = i by rw [List.length_eraseIdx]; have := HL.out; split <;> omega]; exact H7.out, fun x hx => (H.out.byt x (List.mem_of_mem_eraseIdx hx)).fr F3.out (by simpa using hk)⟩, F3.out⟩
  · go_enter Try.func99, Try.ntmps99
    go_wp2_with fail
    have k0 : (0 : Int) ≤ (i : Int) := by omega
    have k1 : (i : Int) ≤ (c : Int) := by omega
    have k2 : (0 : Int) ≤ (i : Int) + 1 := by omega
    have k3 : ((i : Int) + 1) ≤ (i : Int) + 1 + (m : Int) := by omega
    have k4 : (i : Int) + 1 + (m : Int) ≤ (c : Int) := by omega
    have k5 : ((i : Int) + 1).toNat = i + 1 := by omega
    have k6 : i ≤ c := by omega
    have k7 : i + 1 ≤ i + 1 + m := by omega
    go_still_tail 6, (by kernel_rfl)
    have hone : ∀ u ∈ (pcs L).drop ((i + 1) * 2), u.oneCell' = true := fun u hu => H.out.one u (List.mem_of_mem_drop hu)
    have hnl : ((pcs L).drop ((i + 1) * 2)).length = m * 2 := by rw [List.length_drop, pcs_len, HL.out]; omega
    refine wpList_append_fits_any w.drew rfl (.tmp 22) (.tmp 25) 112 rfl 0 120 i0 2 Try.underlying112 hi hz1 kb i c ((pcs L).take (i * 2)) rfl Hpre.out (some ⟨kb, (i + 1) * 2, none⟩) m (c - (i + 1)) ((pcs L).drop ((i + 1) * 2)) rfl hnl (by simp) ?_ hone (by omega) ?_
    · intro ad he j u hj
      injection he with he
      subst he
      have h3 := Sl.of_own (S := fun _ => True) Ho.out (fun _ _ => trivial)
      obtain ⟨_, A', c', hv, _, _, hu⟩ := h3
      obtain ⟨b', o', hA, _, hcl⟩ := hu (by omega)
      subst hA
      injection hv with hv _ _
      injection hv with hv
      injection hv with hb ho _
      subst hb ho
      rw [add_lit']
      rw [List.getElem?_drop] at hj
      have := hcl _ u hj
      rwa [Nat.zero_add] at this
    intro w2 h5 h6
    have ed : (pcs L).take (i * 2) ++ (pcs L).drop ((i + 1) * 2) = pcs (L.eraseIdx i) := by
      rw [pcs_take, pcs_drop, pcs_app, List.eraseIdx_eq_take_drop_succ]
    rw [ed] at h5
    have f2 : Fr [kb] w w2 := ⟨h6.os, h6.tape, h6.output, h6.size, fun x hx hn => h6.block x hx (by simpa using hn)⟩
    obtain ⟨w3, hrun, h7, h8⟩ := run_clear_last (P := Try.prog) 112 0 120 (.agg #[.int .i64 0, .slice none 0 0]) Try.underlying112 hzv [.int .i64 0, .slice none 0 0] (by kernel_rfl) rfl (by decide) h5 (by omega) (c - (i + m))
    have H7 := Lib.hid h7
    have F3 := Lib.hid (f2.trans h8 (by simp))
    have Hone := Lib.hid hone
    have Hnl := Lib.hid hnl
    have Hed := Lib.hid ed
    clear h5 h6 f2 hone hnl ed h7 h8
    have k8 : i + m ≤ c := by omega
    have k9 : (i : Int) + (m : Int) ≤ (i : Int) + 1 + (m : Int) := by omega
    have k10 : i + 1 + m - (i + m) = 1 := by omega
    have k11 : ((i : Int) + 1 + (m : Int)).toNat = i + 1 + m := by omega
    have k12 : ((i : Int) + (m : Int)).toNat = i + m := by omega
    have k13 : ¬ c = i + m := by omega
    go_wp2_with fail
    go_ret
    exact ⟨rfl, ⟨by rw [show (L.eraseIdx i).length = i + m by rw [List.length_eraseIdx]; have := HL.out; split <;> omega]; exact H7.out, fun x hx => (H.out.byt x (List.mem_of_mem_eraseIdx hx)).fr F3.out (by simpa using hk)⟩, F3.out⟩
end Go.Proofs.Ytmgdbbbdhkfdmaa

namespace Go.Proofs.Ytmgdbbbdhkfdmaa
set_option maxRecDepth 100000
open Go.RowKit Go.Shelf
attribute [local go_sem] Oper.semAt_some

def klen (g : Nat) (w : World) : Nat := match w.cell? ⟨g, 2, none⟩ with | some (.slice _ n _) => n | _ => 0

/-- What an iterator reads of the heap. -/
structure Seen (S : Nat → Prop) (g hb : Nat) (m n : Int) (kv ev : Value) (L : List (Pc × Value)) (W : World) : Prop where
  blk : Blk W g 115 (hpa m n kv ev)
  kp : Kp 120 S W kv L
  box : W.cell? ⟨hb, 0, none⟩ = some (ptr g)
  pub : ∀ b, S b → b < W.heap.size
  offg : ¬ S g
  pc : ∀ x ∈ L, 0 ≤ x.1.at_ ∧ x.1.at_ ≤ 4611686018427387904 ∧ 1 ≤ x.1.d.length ∧ x.1.d.length ≤ 64
  n0 : 0 ≤ n
  n1 : n ≤ 4611686018427387968
  len : L.length ≤ 64

theorem map_erase (L : List (Pc × Value)) (i : Nat) : (L.eraseIdx i).map (·.1) = (L.map (·.1)).eraseIdx i := by
  rw [List.eraseIdx_eq_take_drop_succ, List.eraseIdx_eq_take_drop_succ, List.map_append, List.map_take, List.map_drop]

theorem drain_stop (k : Nat) (n : Int) (l : List Pc) (h : readyV n l < 0) : drainV k n l = (n, l, []) := by
  cases k with
  | zero => rfl
  | succ k => unfold drainV; rw [if_pos h]
theorem drain_go (k : Nat) (n : Int) (l : List Pc) (i : Nat) (p : Pc) (h : readyV n l = i) (hp : l.getD i default = p) :
    drainV (k + 1) n l = ((drainV k (takeV n p).2 (l.eraseIdx i)).1, (drainV k (takeV n p).2 (l.eraseIdx i)).2.1, (takeV n p).1 ++ (drainV k (takeV n p).2 (l.eraseIdx i)).2.2) := by
  rw [drainV, if_neg (by omega), h]
  simp only [Int.toNat_natCast, hp]
theorem best_is (is : Pc → Bool) (lt : Pc → Pc → Bool) (l : List Pc) : ∀ (k i : Nat), bestV is lt l k = i → is (l.getD i default) = true
  | 0, i, h => by simp only [bestV] at h; omega
  | k + 1, i, h => by
    rw [best_succ] at h
    split at h
    · rename_i hc
      have : k = i := by omega
      subst this
      simp only [Bool.and_eq_true] at hc
      exact hc.1
    · exact best_is is lt l k i h
theorem ready_is (n : Int) (l : List Pc) (i : Nat) (h : readyV n l = i) : (l.getD i default).at_ ≤ n := by
  have := best_is _ _ _ _ _ h
  simpa [early] using this

theorem klen_of {S : Nat → Prop} {g hb : Nat} {m n : Int} {kv ev : Value} {L : List (Pc × Value)} {W : World} (h : Seen S g hb m n kv ev L W) : klen g W = L.length := by
  have h1 : W.cell? ⟨g, 2, none⟩ = some kv := by simpa using h.blk.cell 2
  obtain ⟨A, c, rfl, _⟩ := h.kp.form
  unfold klen
  rw [h1]
theorem off_fresh {S : Nat → Prop} {w W1 : World} {b2 : Nat} (hp : ∀ b, S b → b < w.heap.size) (hz : w.heap.size ≤ W1.heap.size) (h2 : W1.drew.heap.size ≤ b2) : ¬ S b2 := fun hs => by
  have h1 := hp _ hs
  have h3 : W1.heap.size ≤ b2 := h2
  omega
theorem step3 {g hb b2 : Nat} {m n : Int} {kv ev : Value} {W1 w2 w3 : World} (BG : Blk W1 g 115 (hpa m n kv ev)) (qb : W1.cell? ⟨hb, 0, none⟩ = some (ptr g)) (f2 : Fr [] W1.drew w2) (f3 : Fr [b2] w2 w3) (h2 : W1.drew.heap.size ≤ b2) :
    w3.cell? ⟨g, 2, none⟩ = some kv ∧ w3.frozen? ⟨g, 2, none⟩ = false ∧ w3.cell? ⟨hb, 0, none⟩ = some (ptr g) ∧ Fr [] W1 w3 ∧ g < w3.heap.size := by
  have h2' : W1.heap.size ≤ b2 := h2
  have f13 : Fr [] W1 w3 := ((Fr.refl [] W1).drew.trans f2 (by simp)).trans f3 (by intro x hx; simp at hx; subst hx; exact .inr h2')
  have B3 := BG.fr f13 (by simp)
  exact ⟨by simpa using B3.cell 2, B3.frozen 2, fr_cell f13 qb, f13, B3.lt⟩

set_option maxHeartbeats 2000000 in
theorem ready1_any (S : Nat → Prop) (l g hb : Nat) (m : Int) (ev : Value) (J : Int → Value → List (Pc × Value) → List Int → World → Prop)
    (hR : ∀ n kv L out W, J n kv L out W → Seen S g hb m n kv ev L W)
    (hJ : ∀ n kv L out W W3 kv3 i, J n kv L out W → Fr [] W W3 → Kp 120 S W3 kv3 (L.eraseIdx i) → (∀ b, kv3.ownBlock = some b → W.heap.size ≤ b) → J n kv3 (L.eraseIdx i) out (W3.setCell ⟨g, 2, none⟩ kv3))
    (hJ2 : ∀ n kv L out W W', J n kv L out W → Fr [] W W' → J n kv L out W')
    (hY : ∀ n kv L out W (p : Pc) A c kv1 L1 W1, J n kv1 L1 out W1 → L1.length = L.length + 1 → J n kv L out W → Byt S W (.slice A p.d.length c) p.d → 0 ≤ p.at_ → p.at_ ≤ n → p.at_ ≤ 4611686018427387904 → p.d.length ≤ 64 → YieldAt Fence.wide 3 Try.prog l #[agp p.at_ (.slice A p.d.length c)] W fun e W' =>
      e = .returned (.bool true) ∧ J (takeV n p).2 kv L (out ++ (takeV n p).1) W')
    (n0 : Int) (kv0 : Value) (L0 : List (Pc × Value)) (out0 : List Int) (W0 : World) (h0 : J n0 kv0 L0 out0 W0) :
    Calls Try.prog 96 #[.func (.yield l) #[] #[], .pointer (some ⟨hb, 0, none⟩)] W0 fun e W' => (∃ v, e = .returned v) ∧
      ∃ kv' L', J (drainV L0.length n0 (L0.map (·.1))).1 kv' L' (out0 ++ (drainV L0.length n0 (L0.map (·.1))).2.2) W' ∧ L'.map (·.1) = (drainV L0.length n0 (L0.map (·.1))).2.1 := by
  generalize hD : drainV L0.length n0 (L0.map (·.1)) = D
  have HD := Lib.hid hD
  clear hD
  go_enter Try.func96, Try.ntmps96
  go_wp2_with fail
  go_loopw [3] (fun _ wr => ∃ n kv L out, J n kv L out wr ∧ (drainV L.length n (L.map (·.1))).1 = D.1 ∧ (drainV L.length n (L.map (·.1))).2.1 = D.2.1 ∧ out ++ (drainV L.length n (L.map (·.1))).2.2 = out0 ++ D.2.2) (fun _ wr => klen g wr)
  case atStart => exact ⟨n0, kv0, L0, out0, h0, by rw [HD.out], by rw [HD.out], by rw [HD.out]⟩
  case round =>
    obtain ⟨n, kv, L, out, hj, hd⟩ := hrel
    have HDD := Lib.hid hd
    have Hj := Lib.hid hj
    have hs := hR _ _ _ _ _ hj
    have Hs := Lib.hid hs
    have c1 : wr.cell? ⟨g, 1, none⟩ = some (.int .i64 n) := by simpa using hs.blk.cell 1
    have c2 : wr.cell? ⟨g, 2, none⟩ = some kv := by simpa using hs.blk.cell 2
    have cb := hs.box
    have hf := first_ready S wr g hb n cb c1 kv L hs.kp (by have := hs.len; omega)
    have Hf := Lib.hid hf
    have hbd := ready_bd n (L.map (·.1))
    have hre : bestV (early n) ahead (L.map (·.1)) L.length = readyV n (L.map (·.1)) := by unfold readyV; rw [List.length_map]
    rw [List.length_map] at hbd
    rw [hre] at Hf
    have HR := Lib.hid hR
    have HJ := Lib.hid hJ
    have HJ2 := Lib.hid hJ2
    have HY := Lib.hid hY
    clear hre hd hj hs hf hR hJ hJ2 hY
    generalize hr : readyV n (L.map (·.1)) = r at *
    have Hr := Lib.hid hr
    clear hr
    obtain ⟨r0, r1⟩ := hbd
    by_cases hr0 : r < 0
    · go_wp2_with (go_at_call 89; refine Hf.out.mono ?_; rintro e w1 ⟨rfl, f1⟩)
      refine bodyPost_ret (results_none rfl _ _ _) rfl ⟨⟨_, rfl⟩, ?_⟩
      obtain ⟨hd1, hd2, hd3⟩ := HDD.out
      have hs := drain_stop L.length n (L.map (·.1)) (by rw [Hr.out]; exact hr0)
      rw [hs] at hd1 hd2 hd3
      refine ⟨kv, L, ?_, hd2⟩
      rw [← hd1, ← hd3, List.append_nil]
      exact HJ2.out _ _ _ _ _ _ Hj.out f1
    · obtain ⟨i, rfl⟩ : ∃ i : Nat, r = i := ⟨r.toNat, by omega⟩
      have hiL : i < L.length := by omega
      obtain ⟨m0, hm0⟩ : ∃ m0, L.length = i + 1 + m0 := ⟨L.length - i - 1, by omega⟩
      obtain ⟨kb, kc, x, rfl, hx, c3, c4, hbyt⟩ := Hs.out.kp.at_ hiL
      obtain ⟨A, dc, hxv, _, _⟩ := hbyt.form
      rw [hxv] at c4
      have hpc := Hs.out.pc x (List.mem_of_getElem? hx)
      have Hx := Lib.hid hx
      have Hxv := Lib.hid hxv
      have Hbyt := Lib.hid hbyt
      have Hm0 := Lib.hid hm0
      have hcl : ∀ W, Fr [] wr W → Calls Try.prog 71 #[.slice (some ⟨kb, 0, none⟩) L.length kc] W fun e w' => ∃ b2 c2, e = .returned (.slice (some ⟨b2, 0, none⟩) (i + 1 + m0) c2) ∧ Kp 120 S w' (.slice (some ⟨b2, 0, none⟩) L.length c2) L ∧ Fr [] W w' ∧ W.heap.size ≤ b2 := fun W f =>
        (cloneP_any W (Hs.out.kp.fr f (by simp) (by simp)) (by have := Hs.out.len; omega)).mono fun e w' ⟨A2, c2, he, hk, hf, hb⟩ => by
          obtain ⟨b2, c2', x2, hv, _⟩ := hk.at_ hiL
          injection hv with hv1 _ _
          subst hv1
          rw [Hm0.out] at he
          exact ⟨b2, c2, he, hk, hf, hb b2 rfl⟩
      have Hcl := Lib.hid hcl
      have hdl : ∀ W b2 c2, Kp 120 S W (.slice (some ⟨b2, 0, none⟩) L.length c2) L → ¬ S b2 → Calls Try.prog 99 #[.slice (some ⟨b2, 0, none⟩) (i + 1 + m0) c2, .int .i64 i, .int .i64 (i + 1)] W fun e w' => e = .returned (.slice (some ⟨b2, 0, none⟩) (i + m0) c2) ∧
          Kp 120 S w' (.slice (some ⟨b2, 0, none⟩) (i + m0) c2) (L.eraseIdx i) ∧ Fr [b2] W w' := fun W b2 c2 hk hn => del_any S W b2 c2 i m0 L Hm0.out hk hn (by have := Hs.out.len; omega)
      have Hdl := Lib.hid hdl
      have Hpc := Lib.hid hpc
      have hg2 := Hs.out.blk.lt
      have hhb := World.block_lt_of_cell? wr _ cb
      have hLs : L.length ≤ 64 := Hs.out.len
      dsimp only at hhb
      clear hcl hdl hpc hm0 hx hxv hbyt r0 hr0
      go_wp2_with (go_at_call 89; refine Hf.out.mono ?_; rintro e w1 ⟨rfl, f1⟩; have d2 := fr_cell f1 c2; have db := fr_cell f1 cb; have d3 := fr_cell f1 c3; have d4 := fr_cell f1 c4)
      have hg3 : g < w1.heap.size := by have := f1.size; omega
      have hhb3 : hb < w1.heap.size := by have := f1.size; omega
      have F1 := Lib.hid f1
      have fA : Fr [] wr (w1.alloc (bxp x.1.at_ (.slice A x.1.d.length dc))) := f1.alloc _
      have bA := Blk.new w1 120 #[.int .i64 x.1.at_, .slice A x.1.d.length dc]
      have q2 := cell_al d2 (bxp x.1.at_ (.slice A x.1.d.length dc))
      have qb := cell_al db (bxp x.1.at_ (.slice A x.1.d.length dc))
      have hbb : w1.heap.size ≠ g := by omega
      have bg := Hs.out.blk.fr fA (by simp)
      clear f1 d2 db d3 d4 c1 c2 c3 c4 cb
      generalize w1.alloc (bxp x.1.at_ (.slice A x.1.d.length dc)) = W1 at *
      have FA := Lib.hid fA
      have BA := Lib.hid bA
      have BG := Lib.hid bg
      clear fA bA bg
      have hwr : IntKind.i64.wrap ((i : Int) + 1) = (i : Int) + 1 := IntWalk.i64_in _ (by omega)
      have Hpub := Lib.hid Hs.out.pub
      have hz1 : wr.heap.size ≤ W1.heap.size := FA.out.size
      go_region_with (first
        | (go_at_call 71; (with_reducible refine (Hcl.out _ (FA.out.drew)).mono ?_); rintro e w2 ⟨b2, c2, rfl, k2, f2, h2⟩; have q2' : w2.cell? ⟨g, 2, none⟩ = _ := fr_cell (w := W1.drew) f2 q2; have qb' : w2.cell? ⟨hb, 0, none⟩ = _ := fr_cell (w := W1.drew) f2 qb; have hnS := off_fresh Hpub.out hz1 h2; have K2 := Lib.hid k2; have F2 := Lib.hid f2; clear k2 f2)
        | (go_at_call 99; (with_reducible refine (Hdl.out _ b2 c2 K2.out hnS).mono ?_); rintro e w3 ⟨rfl, k3, f3⟩; obtain ⟨q3, z3, qb3, f13, hg4⟩ := step3 BG.out qb F2.out f3 h2; have K3 := Lib.hid k3; have F3 := Lib.hid f13; clear k3 f3 f13))
      all_goals
        have hj4 := HJ.out n _ L out wr w3 (.slice (some ⟨b2, 0, none⟩) (i + m0) c2) i Hj.out (FA.out.trans F3.out (by simp)) K3.out (fun b hb => by
          have h5 : b2 = b := by simpa [Value.ownBlock] using hb
          have h6 : W1.heap.size ≤ b2 := h2
          omega)
        have ba3 := BA.out.fr F3.out (by simp)
        have ba4 := ba3.far (p := ⟨g, 2, none⟩) hbb (.slice (some ⟨b2, 0, none⟩) (i + m0) c2)
        have hb4 := ((Hbyt.out.fr (FA.out.trans F3.out (by simp)) (by simp)).fr ((Fr.refl [g] w3).setCell (p := ⟨g, 2, none⟩) (.inl (by simp)) (.slice (some ⟨b2, 0, none⟩) (i + m0) c2)) (by simpa using Hs.out.offg))
        rw [Hxv.out] at hb4
        generalize w3.setCell ⟨g, 2, none⟩ (.slice (some ⟨b2, 0, none⟩) (i + m0) c2) = W4 at *
        clear F3 z3 q3 qb3 K3 hg4 q2' qb' K2 F2 hnS h2 ba3
        have p0 : W4.cell? ⟨w1.heap.size, 0, none⟩ = some (.int .i64 x.1.at_) := ba4.cell 0
        have p1 : W4.cell? ⟨w1.heap.size, 1, none⟩ = some (.slice A x.1.d.length dc) := ba4.cell 1
        have hg5 : (L.map (·.1)).getD i default = x.1 := map_get L i x Hx.out
        have hle : x.1.at_ ≤ n := by
          have := ready_is n (L.map (·.1)) i Hr.out
          rwa [hg5] at this
        obtain ⟨fn, tmps, assign, body, hy, hRd⟩ := HY.out n _ _ out W4 x.1 A dc _ L wr Hj.out (by rw [List.length_eraseIdx]; split <;> omega) hj4 hb4 Hpc.out.1 hle Hpc.out.2.1 Hpc.out.2.2.2
        have Hg5 := Lib.hid hg5
        have HRd := Lib.hid hRd
        clear hg5 hle hj4 hb4 hRd
        go_upto_region 4 with fail
        refine (wpIn_wide (n := 4)).1 ?_
        gi_wp2
        refine HRd.out.mono ?_
        rintro e W5 ⟨rfl, hj5⟩
        have Hj5 := Lib.hid hj5
        clear hj5
        gi_wp2
        go_wp2_with fail
        go_roundw
        case rel =>
          obtain ⟨hd1, hd2, hd3⟩ := HDD.out
          obtain ⟨k, hk⟩ : ∃ k, L.length = k + 1 := ⟨L.length - 1, by omega⟩
          have hgo := drain_go k n (L.map (·.1)) i x.1 Hr.out Hg5.out
          rw [hk, hgo] at hd1 hd2 hd3
          have hle : (L.eraseIdx i).length = k := by rw [List.length_eraseIdx]; split <;> omega
          refine ⟨_, _, _, _, Hj5.out, ?_⟩
          rw [hle, map_erase]
          exact ⟨hd1, hd2, by rw [List.append_assoc]; exact hd3⟩
        case measure =>
          rw [klen_of (HR.out _ _ _ _ _ Hj5.out), klen_of Hs.out, List.length_eraseIdx]
          split <;> omega
end Go.Proofs.Ytmgdbbbdhkfdmaa
