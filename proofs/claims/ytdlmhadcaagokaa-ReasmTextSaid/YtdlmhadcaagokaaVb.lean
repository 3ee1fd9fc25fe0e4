import Derived.Test.YtdlmhadcaagokaaV
/-
  The plain law of ReasmText: of pieces of one text a beginning of it is told.
-/
namespace Go.Proofs.Ytdlmhadcaagokaa

theorem bestT_is (is : Pc → Bool) (lt : Pc → Pc → Bool) (l : List Pc) : ∀ k, 0 ≤ bestV is lt l k → is (l.getD (bestV is lt l k).toNat default) = true
  | 0 => by simp [bestV]
  | k + 1 => by
    rw [best_succ]
    by_cases h : (is (l.getD k default) && (decide (bestV is lt l k < 0) || lt (l.getD k default) (l.getD (bestV is lt l k).toNat default))) = true
    · rw [if_pos h]
      intro _
      rw [Bool.and_eq_true] at h
      simpa using h.1
    · rw [if_neg h]
      exact bestT_is is lt l k
theorem bestT_none (is : Pc → Bool) (lt : Pc → Pc → Bool) (l : List Pc) : ∀ k, bestV is lt l k < 0 → ∀ i, i < k → is (l.getD i default) = false
  | 0 => fun _ i hi => by omega
  | k + 1 => by
    rw [best_succ]
    by_cases h : (is (l.getD k default) && (decide (bestV is lt l k < 0) || lt (l.getD k default) (l.getD (bestV is lt l k).toNat default))) = true
    · rw [if_pos h]
      intro h1
      omega
    · rw [if_neg h]
      intro h1 i hi
      by_cases hik : i < k
      · exact bestT_none is lt l k h1 i hik
      · obtain rfl : i = k := by omega
        simpa [h1] using h
theorem ready_at {next : Int} {l : List Pc} (h : 0 ≤ readyV next l) : (l.getD (readyV next l).toNat default).at_ ≤ next := by
  have : early next (l.getD (readyV next l).toNat default) = true := bestT_is (early next) ahead l l.length h
  exact of_decide_eq_true this
theorem ready_none {next : Int} {l : List Pc} (h : readyV next l < 0) : ∀ p ∈ l, next < p.at_ := by
  intro p hp
  obtain ⟨i, hi, rfl⟩ := List.mem_iff_getElem.1 hp
  have := bestT_none (early next) ahead l l.length h i hi
  rw [List.getD_eq_getElem?_getD, List.getElem?_eq_getElem hi] at this
  simp [early] at this
  exact this
/-- The text from a place up to another one. -/
def seg (txt : List Int) (a b : Int) : List Int := (txt.drop a.toNat).take (b - a).toNat
theorem seg_app (txt : List Int) {a b c : Int} (h0 : 0 ≤ a) (h1 : a ≤ b) (h2 : b ≤ c) : seg txt a b ++ seg txt b c = seg txt a c := by
  unfold seg
  rw [show (c - a).toNat = (b - a).toNat + (c - b).toNat by omega, List.take_add, List.drop_drop, show a.toNat + (b - a).toNat = b.toNat by omega]
theorem seg_len (txt : List Int) {a b : Int} (h0 : 0 ≤ a) (h1 : a ≤ b) (h2 : b ≤ txt.length) : (seg txt a b).length = (b - a).toNat := by
  unfold seg
  rw [List.length_take, List.length_drop]
  omega
theorem seg_drop (txt : List Int) {a b c : Int} (h0 : 0 ≤ a) (h1 : a ≤ b) (h2 : b ≤ c) : (seg txt a c).drop (b - a).toNat = seg txt b c := by
  unfold seg
  rw [List.drop_take, List.drop_drop, show a.toNat + (b - a).toNat = b.toNat by omega, show (c - a).toNat - (b - a).toNat = (c - b).toNat by omega]
theorem seg_self (txt : List Int) (a : Int) : seg txt a a = [] := by simp [seg]
/-- A piece of the text. -/
structure Sub (txt : List Int) (p : Pc) : Prop where
  a0 : 0 ≤ p.at_
  l1 : 1 ≤ p.d.length
  hi : p.at_ + p.d.length ≤ txt.length
  eq : p.d = seg txt p.at_ (p.at_ + p.d.length)
theorem take_txt {txt : List Int} {p : Pc} {next : Int} (h : Sub txt p) (h0 : 0 ≤ next) (h1 : next ≤ txt.length) (ha : p.at_ ≤ next) :
    next ≤ (takeV next p).2 ∧ (takeV next p).2 ≤ txt.length ∧ (takeV next p).1 = seg txt next (takeV next p).2 := by
  unfold takeV Pc.beh
  by_cases hb : p.at_ + p.d.length ≤ next
  · rw [if_pos hb]
    exact ⟨Int.le_refl _, h1, by simp [seg]⟩
  · rw [if_neg hb]
    refine ⟨by simp; omega, h.hi, ?_⟩
    have := seg_drop txt h.a0 ha (show next ≤ p.at_ + p.d.length by omega)
    rw [← h.eq] at this
    exact this
theorem drain_txt (txt : List Int) : ∀ (n : Nat) (next : Int) (l : List Pc), l.length ≤ n → 0 ≤ next → next ≤ txt.length → (∀ p ∈ l, Sub txt p) →
    next ≤ (drainV n next l).1 ∧ (drainV n next l).1 ≤ txt.length ∧ (drainV n next l).2.2 = seg txt next (drainV n next l).1 ∧ ∀ p ∈ (drainV n next l).2.1, (drainV n next l).1 < p.at_
  | 0, next, l, hl, h0, h1, hs => by
    have : l = [] := List.eq_nil_of_length_eq_zero (by omega)
    subst this
    exact ⟨Int.le_refl _, h1, by simp [drainV, seg], by simp [drainV]⟩
  | n + 1, next, l, hl, h0, h1, hs => by
    unfold drainV
    by_cases hr : readyV next l < 0
    · rw [if_pos hr]
      exact ⟨Int.le_refl _, h1, by simp [seg], ready_none hr⟩
    · rw [if_neg hr]
      have hb := ready_bd next l
      have hlt : (readyV next l).toNat < l.length := by omega
      have hp := hs _ (getD_mem hlt)
      obtain ⟨t1, t2, t3⟩ := take_txt hp h0 h1 (ready_at (by omega))
      generalize hpp : l.getD (readyV next l).toNat default = p at *
      obtain ⟨d1, d2, d3, d4⟩ := drain_txt txt n (takeV next p).2 (l.eraseIdx (readyV next l).toNat) (by rw [List.length_eraseIdx]; split <;> omega) (by omega) t2 (fun q hq => hs q (List.mem_of_mem_eraseIdx hq))
      refine ⟨by simp only []; omega, d2, ?_, d4⟩
      simp only []
      rw [t3, d3]
      exact seg_app txt h0 t1 d1
/-- A heap to which pieces of one text were put, and what was told. -/
structure Txt (txt : List Int) (h : Hp) (out : List Int) : Prop where
  fin : h.fin = none
  next : h.next = out.length
  le : out.length ≤ txt.length
  out : out = seg txt 0 out.length
  sub : ∀ p ∈ h.kept, Sub txt p ∧ h.next < p.at_
theorem txt_new (txt : List Int) (m : Int) : Txt txt (newV m) [] := ⟨rfl, rfl, by simp, by simp [seg], by simp [newV]⟩
theorem put_txt {txt : List Int} {h : Hp} {out : List Int} (t : Txt txt h out) (hn : txt.length ≤ 1000) (a : Int) (d : List Int) (hl : d.length ≤ 64) (hs : Sub txt ⟨a, d⟩) :
    Txt txt (putV h a d).1 (out ++ (putV h a d).2.1) ∧ ((putV h a d).2.2 = 0 ∨ (putV h a d).2.2 = 251) ∧ h.next ≤ (putV h a d).1.next ∧ (a ≤ h.next → a + d.length ≤ (putV h a d).1.next) := by
  have s0 := hs.a0
  have s1 := hs.l1
  have s2 := hs.hi
  have s3 := hs.eq
  dsimp only at s0 s1 s2 s3
  have tn := t.next
  have tl := t.le
  unfold putV
  rw [if_neg (by omega)]
  have hp : past h.fin (a + d.length) = false := by unfold past; rw [t.fin]
  rw [hp, if_neg (by simp)]
  by_cases h5 : a + d.length ≤ h.next
  · rw [if_pos h5]
    exact ⟨by simpa using t, .inl rfl, Int.le_refl _, fun _ => h5⟩
  rw [if_neg h5]
  by_cases h6 : a ≤ h.next
  · rw [if_pos h6]
    obtain ⟨d1, d2, d3, d4⟩ := drain_txt txt h.kept.length (a + d.length) h.kept (Nat.le_refl _) (by omega) s2 (fun p hp => (t.sub p hp).1)
    generalize hD : drainV h.kept.length (a + d.length) h.kept = D at *
    have dm := fun p hp => (t.sub p (drain_mem h.kept.length (a + d.length) h.kept p (by rw [hD]; exact hp))).1
    have e1 : d.drop (h.next - a).toNat ++ D.2.2 = seg txt h.next D.1 := by
      rw [d3, ← seg_app txt (show 0 ≤ h.next by omega) (show h.next ≤ a + d.length by omega) d1]
      congr 1
      have := seg_drop txt s0 h6 (show h.next ≤ a + d.length by omega)
      rw [← s3] at this
      exact this
    have e2 := seg_len txt (show 0 ≤ h.next by omega) (show h.next ≤ D.1 by omega) d2
    have e3 : out ++ seg txt h.next D.1 = seg txt 0 D.1 := by
      have h3 := seg_app txt (Int.le_refl 0) (show 0 ≤ h.next by omega) (show h.next ≤ D.1 by omega)
      rw [← h3]
      congr 1
      rw [tn]
      exact t.out
    have e4 : (out ++ seg txt h.next D.1).length = D.1 := by
      rw [List.length_append, e2]
      omega
    refine ⟨⟨t.fin, ?_, ?_, ?_, fun p hp => ⟨dm p hp, d4 p hp⟩⟩, .inl rfl, by simp only []; omega, fun _ => d1⟩
    · simp only []
      rw [e1]
      exact e4.symm
    · rw [e1]
      simp only []
      have := e4
      omega
    · rw [e1]
      simp only []
      rw [e4]
      exact e3
  rw [if_neg h6]
  by_cases h7 : h.kept.any (longer a d.length) = true
  · rw [if_pos h7]
    exact ⟨by simpa using t, .inl rfl, Int.le_refl _, fun h => absurd h h6⟩
  rw [if_neg h7]
  by_cases h8 : h.most ≤ h.kept.length
  · rw [if_pos h8]
    exact ⟨by simpa using t, .inr rfl, Int.le_refl _, fun h => absurd h h6⟩
  rw [if_neg h8]
  refine ⟨⟨t.fin, by simpa using t.next, by simpa using t.le, by simpa using t.out, fun p hp => ?_⟩, .inl rfl, Int.le_refl _, fun h => absurd h h6⟩
  rcases List.mem_append.1 hp with hp | hp
  · exact t.sub p hp
  · rw [List.mem_singleton] at hp
    subst hp
    exact ⟨hs, by simp only []; omega⟩
/-- Where all was told nothing is kept. -/
theorem txt_end {txt : List Int} {h : Hp} {out : List Int} (t : Txt txt h out) (he : h.next = txt.length) : h.kept = [] ∧ out = txt := by
  have hn := t.next
  refine ⟨?_, ?_⟩
  · cases hk : h.kept with
    | nil => rfl
    | cons p l =>
      obtain ⟨s, h1⟩ := t.sub p (by rw [hk]; simp)
      have := s.hi
      have := s.l1
      omega
  · have h1 := t.out
    have h2 : out.length = txt.length := by omega
    rw [h2] at h1
    rw [h1]
    simp [seg]
end Go.Proofs.Ytdlmhadcaagokaa
