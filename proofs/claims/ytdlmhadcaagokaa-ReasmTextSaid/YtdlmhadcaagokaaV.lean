/-
  The plain functions of the heap: numbers and lists alone, no program in sight.
-/
namespace Go.Proofs.Ytdlmhadcaagokaa

/-- Some bytes from a place on. -/
structure Pc where
  at_ : Int
  d : List Int
instance : Inhabited Pc := ⟨⟨0, []⟩⟩
def Pc.beh (p : Pc) : Int := p.at_ + p.d.length
/-- A heap: how many pieces may be kept, up to where all was told, what is kept, the end. -/
structure Hp where
  most : Int
  next : Int
  kept : List Pc
  fin : Option Int

/-- What of a piece that begins no later than the place is told, and the place behind it. -/
def takeV (next : Int) (p : Pc) : List Int × Int := if p.beh ≤ next then ([], next) else (p.d.drop (next - p.at_).toNat, p.beh)
/-- Where the first of the first k stands by an order, among those of which something is so; -1: nowhere. -/
def bestV (is : Pc → Bool) (lt : Pc → Pc → Bool) (l : List Pc) : Nat → Int
  | 0 => -1
  | k + 1 => if is (l.getD k default) && (decide (bestV is lt l k < 0) || lt (l.getD k default) (l.getD (bestV is lt l k).toNat default)) then k else bestV is lt l k
def early (next : Int) (p : Pc) : Bool := decide (p.at_ ≤ next)
def ahead (p q : Pc) : Bool := decide (p.at_ < q.at_)
def readyV (next : Int) (l : List Pc) : Int := bestV (early next) ahead l l.length
/-- All pieces that are to be told now are told; n: no more than so many. -/
def drainV : Nat → Int → List Pc → Int × List Pc × List Int
  | 0, next, l => (next, l, [])
  | n + 1, next, l =>
    if readyV next l < 0 then (next, l, [])
    else
      ((drainV n (takeV next (l.getD (readyV next l).toNat default)).2 (l.eraseIdx (readyV next l).toNat)).1,
       (drainV n (takeV next (l.getD (readyV next l).toNat default)).2 (l.eraseIdx (readyV next l).toNat)).2.1,
       (takeV next (l.getD (readyV next l).toNat default)).1 ++ (drainV n (takeV next (l.getD (readyV next l).toNat default)).2 (l.eraseIdx (readyV next l).toNat)).2.2)
def past (e : Option Int) (b : Int) : Bool := match e with | none => false | some a => decide (a < b)
def other (e : Option Int) (b : Int) : Bool := match e with | none => false | some a => !(a == b)
/-- One that begins there and is as long or longer. -/
def longer (at_ : Int) (n : Nat) (p : Pc) : Bool := (p.at_ == at_) && decide (n ≤ p.d.length)
def putV (h : Hp) (at_ : Int) (d : List Int) : Hp × List Int × Int :=
  if at_ < 0 ∨ 4611686018427387904 < at_ ∨ d.length < 1 ∨ 64 < d.length then (h, [], 2)
  else if past h.fin (at_ + d.length) = true then (h, [], 250)
  else if at_ + d.length ≤ h.next then (h, [], 0)
  else if at_ ≤ h.next then
    ({ h with next := (drainV h.kept.length (at_ + d.length) h.kept).1, kept := (drainV h.kept.length (at_ + d.length) h.kept).2.1 }, d.drop (h.next - at_).toNat ++ (drainV h.kept.length (at_ + d.length) h.kept).2.2, 0)
  else if h.kept.any (longer at_ d.length) = true then (h, [], 0)
  else if h.most ≤ h.kept.length then (h, [], 251)
  else ({ h with kept := h.kept ++ [⟨at_, d⟩] }, [], 0)
def over (a : Int) (p : Pc) : Bool := decide (a < p.beh)
def endV (h : Hp) (at_ : Int) : Hp × Int :=
  if at_ < 0 ∨ 4611686018427387904 < at_ then (h, 2)
  else if (other h.fin at_ || decide (at_ < h.next) || h.kept.any (over at_)) = true then (h, 250)
  else ({ h with fin := some at_ }, 0)
def sumV : List Pc → Int
  | [] => 0
  | p :: l => p.d.length + sumV l
def newV (most : Int) : Hp := ⟨most, 0, [], none⟩

/-- What holds of every heap. -/
structure Inv (h : Hp) : Prop where
  m0 : 0 ≤ h.most
  m1 : h.most ≤ 64
  n0 : 0 ≤ h.next
  n1 : h.next ≤ 4611686018427387968
  len : (h.kept.length : Int) ≤ h.most
  pc : ∀ p ∈ h.kept, 0 ≤ p.at_ ∧ p.at_ ≤ 4611686018427387904 ∧ 1 ≤ p.d.length ∧ p.d.length ≤ 64
  fin : ∀ a, h.fin = some a → 0 ≤ a ∧ a ≤ 4611686018427387904

theorem best_succ (is : Pc → Bool) (lt : Pc → Pc → Bool) (l : List Pc) (k : Nat) : bestV is lt l (k + 1) =
    if is (l.getD k default) && (decide (bestV is lt l k < 0) || lt (l.getD k default) (l.getD (bestV is lt l k).toNat default)) then (k : Int) else bestV is lt l k := rfl
theorem best_bd (is : Pc → Bool) (lt : Pc → Pc → Bool) (l : List Pc) : ∀ k, -1 ≤ bestV is lt l k ∧ bestV is lt l k < k
  | 0 => by simp [bestV]
  | k + 1 => by
    have := best_bd is lt l k
    unfold bestV
    split <;> omega
theorem ready_bd (next : Int) (l : List Pc) : -1 ≤ readyV next l ∧ readyV next l < l.length := best_bd _ _ l _

theorem drain_len : ∀ n next l, (drainV n next l).2.1.length ≤ l.length
  | 0, _, _ => Nat.le_refl _
  | n + 1, next, l => by
    unfold drainV
    split
    · exact Nat.le_refl _
    · exact Nat.le_trans (drain_len n _ _) (List.length_eraseIdx_le _ _)
theorem drain_mem : ∀ n next l p, p ∈ (drainV n next l).2.1 → p ∈ l
  | 0, _, _, _, h => h
  | n + 1, next, l, p, h => by
    unfold drainV at h
    split at h
    · exact h
    · exact List.mem_of_mem_eraseIdx (drain_mem n _ _ p h)
theorem take_bd (next : Int) (p : Pc) (h0 : 0 ≤ next) (h1 : next ≤ 4611686018427387968) (hp : p.at_ ≤ 4611686018427387904 ∧ p.d.length ≤ 64) :
    0 ≤ (takeV next p).2 ∧ (takeV next p).2 ≤ 4611686018427387968 ∧ next ≤ (takeV next p).2 := by
  unfold takeV Pc.beh
  split
  · exact ⟨h0, h1, Int.le_refl _⟩
  · dsimp only
    omega
theorem getD_mem {l : List Pc} {i : Nat} (h : i < l.length) : l.getD i default ∈ l := by
  rw [List.getD_eq_getElem?_getD, List.getElem?_eq_getElem h]
  exact List.getElem_mem h
theorem drain_bd : ∀ n next l, 0 ≤ next → next ≤ 4611686018427387968 → (∀ p ∈ l, 0 ≤ p.at_ ∧ p.at_ ≤ 4611686018427387904 ∧ 1 ≤ p.d.length ∧ p.d.length ≤ 64) →
    0 ≤ (drainV n next l).1 ∧ (drainV n next l).1 ≤ 4611686018427387968 ∧ next ≤ (drainV n next l).1
  | 0, _, _, h0, h1, _ => ⟨h0, h1, Int.le_refl _⟩
  | n + 1, next, l, h0, h1, hp => by
    unfold drainV
    split
    · exact ⟨h0, h1, Int.le_refl _⟩
    · rename_i hn
      have hb := ready_bd next l
      have hm := hp _ (getD_mem (l := l) (i := (readyV next l).toNat) (by omega))
      have ht := take_bd next _ h0 h1 ⟨hm.2.1, hm.2.2.2⟩
      have := drain_bd n (takeV next (l.getD (readyV next l).toNat default)).2 (l.eraseIdx (readyV next l).toNat) ht.1 ht.2.1 (fun p hq => hp p (List.mem_of_mem_eraseIdx hq))
      exact ⟨this.1, this.2.1, Int.le_trans ht.2.2 this.2.2⟩
theorem put_inv {h : Hp} (hi : Inv h) (a : Int) (d : List Int) : Inv (putV h a d).1 := by
  unfold putV
  split
  · exact hi
  split
  · exact hi
  split
  · exact hi
  rename_i g1 g2 g3
  split
  · have h1 := drain_len h.kept.length (a + d.length) h.kept
    have h2 := drain_bd h.kept.length (a + d.length) h.kept (by omega) (by omega) hi.pc
    have h3 := hi.len
    exact ⟨hi.m0, hi.m1, h2.1, h2.2.1, by dsimp only; omega, fun p hp => hi.pc p (drain_mem _ _ _ _ hp), hi.fin⟩
  split
  · exact hi
  split
  · exact hi
  · refine ⟨hi.m0, hi.m1, hi.n0, hi.n1, by simp; omega, fun p hp => ?_, hi.fin⟩
    rcases List.mem_append.1 hp with hp | hp
    · exact hi.pc p hp
    · rw [List.mem_singleton] at hp
      subst hp
      dsimp only
      omega
theorem end_inv {h : Hp} (hi : Inv h) (a : Int) : Inv (endV h a).1 := by
  unfold endV
  split
  · exact hi
  split
  · exact hi
  · refine ⟨hi.m0, hi.m1, hi.n0, hi.n1, hi.len, hi.pc, fun b hb => ?_⟩
    injection hb with hb
    omega
theorem put_most (h : Hp) (a : Int) (d : List Int) : (putV h a d).1.most = h.most := by
  unfold putV
  (repeat' split) <;> rfl
theorem end_most (h : Hp) (a : Int) : (endV h a).1.most = h.most := by
  unfold endV
  (repeat' split) <;> rfl
theorem new_inv {m : Int} (h0 : 0 ≤ m) (h1 : m ≤ 64) : Inv (newV m) := ⟨h0, h1, by simp [newV], by simp [newV], by simpa [newV] using h0, by simp [newV], by simp [newV]⟩
theorem sum_bd : ∀ l : List Pc, (∀ p ∈ l, p.d.length ≤ 64) → 0 ≤ sumV l ∧ sumV l ≤ 64 * l.length
  | [], _ => by simp [sumV]
  | p :: l, h => by
    have h1 := sum_bd l fun q hq => h q (List.mem_cons_of_mem _ hq)
    have h2 := h p (List.mem_cons_self ..)
    simp only [sumV, List.length_cons]
    omega
theorem sum_snoc : ∀ (l : List Pc) (p : Pc), sumV (l ++ [p]) = sumV l + p.d.length
  | [], p => by simp [sumV]
  | q :: l, p => by
    have := sum_snoc l p
    simp only [List.cons_append, sumV]
    omega
/-- With no order the first one is meant: there is one just if there is one. -/
theorem best_any (is : Pc → Bool) (l : List Pc) : ∀ k, k ≤ l.length → (decide (0 ≤ bestV is (fun _ _ => false) l k) = (l.take k).any is)
  | 0, _ => by simp [bestV]
  | k + 1, hk => by
    have ih := best_any is l k (by omega)
    have hb := best_bd is (fun _ _ => false) l k
    rw [List.take_add_one, List.any_append, ← ih]
    have hx : l[k]? = some (l.getD k default) := by
      rw [List.getD_eq_getElem?_getD, List.getElem?_eq_getElem (by omega)]; rfl
    rw [hx, best_succ]
    generalize l.getD k default = x at *
    generalize bestV is (fun _ _ => false) l k = b at *
    cases hc : is x
    · simp [hc]
    · by_cases h0 : b < 0
      · simp [hc, h0]
      · simp [hc, h0]
        omega
theorem best_longer (at_ : Int) (n : Nat) (l : List Pc) : decide (0 ≤ bestV (longer at_ n) (fun _ _ => false) l l.length) = l.any (longer at_ n) := by
  have := best_any (longer at_ n) l l.length (Nat.le_refl _)
  rwa [List.take_length] at this
end Go.Proofs.Ytdlmhadcaagokaa
