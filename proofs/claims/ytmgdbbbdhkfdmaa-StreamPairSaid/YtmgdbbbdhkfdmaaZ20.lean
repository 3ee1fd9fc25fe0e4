import Derived.Test.YtmgdbbbdhkfdmaaZ4
import Derived.Test.YtmgdbbbdhkfdmaaZ15
import Derived.Test.YtmgdbbbdhkfdmaaZ19
import Derived.Test.YtmgdbbbdhkfdmaaZ17
import Derived.Deep.DeepCutAuto
import Derived.Test.YtmgdbbbdhkfdmaaZ1
import Derived.Deep.Fields
import Derived.OpenShut
import Derived.Deep.Slices
import Derived.Lib.SmallJoins
set_option linter.unusedSimpArgs false
set_option linter.unusedVariables false
/-
  The plain law of ReasmText: of pieces of one text a beginning of it is told.
-/
namespace Go.Proofs.Ytmgdbbbdhkfdmaa
set_option maxRecDepth 100000

theorem bestT_is (is : Pc → Bool) (lt : Pc → Pc → Bool) (l : List Pc) : ∀ k, 0 ≤ bestV is lt l k → is (l.getD (bestV is lt l k).toNat default) = true
  | 0 => by simp [bestV]
  | k + 1 => by
    rw [best_succ]
    by_cases h : (is (l.getD k default) && (decide (bestV is lt l k < 0) || lt (l.getD k default) (l.getD (bestV is lt l k).toNat default))) = true
    · rw [if_pos h]
      intro _
      rw [Bool.and_eq_true] at h
      simpa using h.1
    · rw [if_neg h]
      exact bestT_is is lt l k
theorem bestT_none (is : Pc → Bool) (lt : Pc → Pc → Bool) (l : List Pc) : ∀ k, bestV is lt l k < 0 → ∀ i, i < k → is (l.getD i default) = false
  | 0 => fun _ i hi => by omega
  | k + 1 => by
    rw [best_succ]
    by_cases h : (is (l.getD k default) && (decide (bestV is lt l k < 0) || lt (l.getD k default) (l.getD (bestV is lt l k).toNat default))) = true
    · rw [if_pos h]
      intro h1
      omega
    · rw [if_neg h]
      intro h1 i hi
      by_cases hik : i < k
      · exact bestT_none is lt l k h1 i hik
      · obtain rfl : i = k := by omega
        simpa [h1] using h
theorem ready_at {next : Int} {l : List Pc} (h : 0 ≤ readyV next l) : (l.getD (readyV next l).toNat default).at_ ≤ next := by
  have : early next (l.getD (readyV next l).toNat default) = true := bestT_is (early next) ahead l l.length h
  exact of_decide_eq_true this
theorem ready_none {next : Int} {l : List Pc} (h : readyV next l < 0) : ∀ p ∈ l, next < p.at_ := by
  intro p hp
  obtain ⟨i, hi, rfl⟩ := List.mem_iff_getElem.1 hp
  have := bestT_none (early next) ahead l l.length h i hi
  rw [List.getD_eq_getElem?_getD, List.getElem?_eq_getElem hi] at this
  simp [early] at this
  exact this
/-- The text from a place up to another one. -/
def seg (txt : List Int) (a b : Int) : List Int := (txt.drop a.toNat).take (b - a).toNat
theorem seg_app (txt : List Int) {a b c : Int} (h0 : 0 ≤ a) (h1 : a ≤ b) (h2 : b ≤ c) : seg txt a b ++ seg txt b c = seg txt a c := by
  unfold seg
  rw [show (c - a).toNat = (b - a).toNat + (c - b).toNat by omega, List.take_add, List.drop_drop, show a.toNat + (b - a).toNat = b.toNat by omega]
theorem seg_len (txt : List Int) {a b : Int} (h0 : 0 ≤ a) (h1 : a ≤ b) (h2 : b ≤ txt.length) : (seg txt a b).length = (b - a).toNat := by
  unfold seg
  rw [List.length_take, List.length_drop]
  omega
theorem seg_drop (txt : List Int) {a b c : Int} (h0 : 0 ≤ a) (h1 : a ≤ b) (h2 : b ≤ c) : (seg txt a c).drop (b - a).toNat = seg txt b c := by
  unfold seg
  rw [List.drop_take, List.drop_drop, show a.toNat + (b - a).toNat = b.toNat by omega, show (c - a).toNat - (b - a).toNat = (c - b).toNat by omega]
theorem seg_self (txt : List Int) (a : Int) : seg txt a a = [] := by simp [seg]
/-- A piece of the text. -/
structure Sub (txt : List Int) (p : Pc) : Prop where
  a0 : 0 ≤ p.at_
  l1 : 1 ≤ p.d.length
  hi : p.at_ + p.d.length ≤ txt.length
  eq : p.d = seg txt p.at_ (p.at_ + p.d.length)
theorem take_txt {txt : List Int} {p : Pc} {next : Int} (h : Sub txt p) (h0 : 0 ≤ next) (h1 : next ≤ txt.length) (ha : p.at_ ≤ next) :
    next ≤ (takeV next p).2 ∧ (takeV next p).2 ≤ txt.length ∧ (takeV next p).1 = seg txt next (takeV next p).2 := by
  unfold takeV Pc.beh
  by_cases hb : p.at_ + p.d.length ≤ next
  · rw [if_pos hb]
    exact ⟨Int.le_refl _, h1, by simp [seg]⟩
  · rw [if_neg hb]
    refine ⟨by simp; omega, h.hi, ?_⟩
    have := seg_drop txt h.a0 ha (show next ≤ p.at_ + p.d.length by omega)
    rw [← h.eq] at this
    exact this
theorem drain_txt (txt : List Int) : ∀ (n : Nat) (next : Int) (l : List Pc), l.length ≤ n → 0 ≤ next → next ≤ txt.length → (∀ p ∈ l, Sub txt p) →
    next ≤ (drainV n next l).1 ∧ (drainV n next l).1 ≤ txt.length ∧ (drainV n next l).2.2 = seg txt next (drainV n next l).1 ∧ ∀ p ∈ (drainV n next l).2.1, (drainV n next l).1 < p.at_
  | 0, next, l, hl, h0, h1, hs => by
    have : l = [] := List.eq_nil_of_length_eq_zero (by omega)
    subst this
    exact ⟨Int.le_refl _, h1, by simp [drainV, seg], by simp [drainV]⟩
  | n + 1, next, l, hl, h0, h1, hs => by
    unfold drainV
    by_cases hr : readyV next l < 0
    · rw [if_pos hr]
      exact ⟨Int.le_refl _, h1, by simp [seg], ready_none hr⟩
    · rw [if_neg hr]
      have hb := ready_bd next l
      have hlt : (readyV next l).toNat < l.length := by omega
      have hp := hs _ (getD_mem hlt)
      obtain ⟨t1, t2, t3⟩ := take_txt hp h0 h1 (ready_at (by omega))
      generalize hpp : l.getD (readyV next l).toNat default = p at *
      obtain ⟨d1, d2, d3, d4⟩ := drain_txt txt n (takeV next p).2 (l.eraseIdx (readyV next l).toNat) (by rw [List.length_eraseIdx]; split <;> omega) (by omega) t2 (fun q hq => hs q (List.mem_of_mem_eraseIdx hq))
      refine ⟨by simp only []; omega, d2, ?_, d4⟩
      simp only []
      rw [t3, d3]
      exact seg_app txt h0 t1 d1
/-- A heap to which pieces of one text were put, and what was told. -/
structure Txt (txt : List Int) (h : Hp) (out : List Int) : Prop where
  fin : h.fin = none
  next : h.next = out.length
  le : out.length ≤ txt.length
  out : out = seg txt 0 out.length
  sub : ∀ p ∈ h.kept, Sub txt p ∧ h.next < p.at_
theorem txt_new (txt : List Int) (m : Int) : Txt txt (newV m) [] := ⟨rfl, rfl, by simp, by simp [seg], by simp [newV]⟩
theorem put_txt {txt : List Int} {h : Hp} {out : List Int} (t : Txt txt h out) (hn : txt.length ≤ 1000) (a : Int) (d : List Int) (hl : d.length ≤ 64) (hs : Sub txt ⟨a, d⟩) :
    Txt txt (putV h a d).1 (out ++ (putV h a d).2.1) ∧ ((putV h a d).2.2 = 0 ∨ (putV h a d).2.2 = 251) ∧ h.next ≤ (putV h a d).1.next ∧ (a ≤ h.next → a + d.length ≤ (putV h a d).1.next) := by
  have s0 := hs.a0
  have s1 := hs.l1
  have s2 := hs.hi
  have s3 := hs.eq
  dsimp only at s0 s1 s2 s3
  have tn := t.next
  have tl := t.le
  unfold putV
  rw [if_neg (by omega)]
  have hp : past h.fin (a + d.length) = false := by unfold past; rw [t.fin]
  rw [hp, if_neg (by simp)]
  by_cases h5 : a + d.length ≤ h.next
  · rw [if_pos h5]
    exact ⟨by simpa using t, .inl rfl, Int.le_refl _, fun _ => h5⟩
  rw [if_neg h5]
  by_cases h6 : a ≤ h.next
  · rw [if_pos h6]
    obtain ⟨d1, d2, d3, d4⟩ := drain_txt txt h.kept.length (a + d.length) h.kept (Nat.le_refl _) (by omega) s2 (fun p hp => (t.sub p hp).1)
    generalize hD : drainV h.kept.length (a + d.length) h.kept = D at *
    have dm := fun p hp => (t.sub p (drain_mem h.kept.length (a + d.length) h.kept p (by rw [hD]; exact hp))).1
    have e1 : d.drop (h.next - a).toNat ++ D.2.2 = seg txt h.next D.1 := by
      rw [d3, ← seg_app txt (show 0 ≤ h.next by omega) (show h.next ≤ a + d.length by omega) d1]
      congr 1
      have := seg_drop txt s0 h6 (show h.next ≤ a + d.length by omega)
      rw [← s3] at this
      exact this
    have e2 := seg_len txt (show 0 ≤ h.next by omega) (show h.next ≤ D.1 by omega) d2
    have e3 : out ++ seg txt h.next D.1 = seg txt 0 D.1 := by
      have h3 := seg_app txt (Int.le_refl 0) (show 0 ≤ h.next by omega) (show h.next ≤ D.1 by omega)
      rw [← h3]
      congr 1
      rw [tn]
      exact t.out
    have e4 : (out ++ seg txt h.next D.1).length = D.1 := by
      rw [List.length_append, e2]
      omega
    refine ⟨⟨t.fin, ?_, ?_, ?_, fun p hp => ⟨dm p hp, d4 p hp⟩⟩, .inl rfl, by simp only []; omega, fun _ => d1⟩
    · simp only []
      rw [e1]
      exact e4.symm
    · rw [e1]
      simp only []
      have := e4
      omega
    · rw [e1]
      simp only []
      rw [e4]
      exact e3
  rw [if_neg h6]
  by_cases h7 : h.kept.any (longer a d.length) = true
  · rw [if_pos h7]
    exact ⟨by simpa using t, .inl rfl, Int.le_refl _, fun h => absurd h h6⟩
  rw [if_neg h7]
  by_cases h8 : h.most ≤ h.kept.length
  · rw [if_pos h8]
    exact ⟨by simpa using t, .inr rfl, Int.le_refl _, fun h => absurd h h6⟩
  rw [if_neg h8]
  refine ⟨⟨t.fin, by simpa using t.next, by simpa using t.le, by simpa using t.out, fun p hp => ?_⟩, .inl rfl, Int.le_refl _, fun h => absurd h h6⟩
  rcases List.mem_append.1 hp with hp | hp
  · exact t.sub p hp
  · rw [List.mem_singleton] at hp
    subst hp
    exact ⟨hs, by simp only []; omega⟩
/-- Where all was told nothing is kept. -/
theorem txt_end {txt : List Int} {h : Hp} {out : List Int} (t : Txt txt h out) (he : h.next = txt.length) : h.kept = [] ∧ out = txt := by
  have hn := t.next
  refine ⟨?_, ?_⟩
  · cases hk : h.kept with
    | nil => rfl
    | cons p l =>
      obtain ⟨s, h1⟩ := t.sub p (by rw [hk]; simp)
      have := s.hi
      have := s.l1
      omega
  · have h1 := t.out
    have h2 : out.length = txt.length := by omega
    rw [h2] at h1
    rw [h1]
    simp [seg]
end Go.Proofs.Ytmgdbbbdhkfdmaa

/-
  The plain law of StreamPair: what holds of each of two ends, whatever of what they sent comes.
-/
namespace Go.Proofs.Ytmgdbbbdhkfdmaa
set_option maxRecDepth 100000
set_option linter.unusedSectionVars false

/-- A part that one sends who wrote sd, from the number isn on. -/
structure GoodP (isn : Int) (sd : List Int) (p : Prt) : Prop where
  f0 : 0 ≤ p.flags
  f1 : p.flags ≤ 15
  w0 : 0 ≤ p.win
  w1 : p.win < 65536
  syn : has p.flags 1 = true → p.seq = isn ∧ p.d = []
  dat : p.d ≠ [] → ∃ a, p.seq = add32 isn (1 + a) ∧ Sub sd ⟨a, p.d⟩
  l : p.d.length ≤ 64
/-- An end: its number, the other one's; what was written here, there; what was read. -/
structure EI (isn isnO : Int) (sn so rd : List Int) (x : St) : Prop where
  ok : Ok x
  all : x.all = sn
  num : x.isn = isn
  peer : x.at_ = 3 ∨ x.at_ = 4 → x.peer = isnO
  buf : x.all.length - x.win.a ≤ 4096
  txt : rd ++ x.unread = so.take x.heap.next.toNat
  nx : x.heap.next ≤ so.length
  kept : ∀ p ∈ x.heap.kept, Sub so p
theorem sub_app {t b : List Int} {p : Pc} (h : Sub t p) : Sub (t ++ b) p := by
  refine ⟨h.a0, h.l1, by have := h.hi; simp; omega, ?_⟩
  have h1 := h.eq
  have h2 := h.hi
  have h3 := h.a0
  rw [h1]
  have hl : (seg t p.at_ (p.at_ + p.d.length)).length = p.d.length := by rw [← h1]
  rw [hl]
  unfold seg
  rw [List.drop_append_of_le_length (by omega), List.take_append_of_le_length (by rw [List.length_drop]; omega)]
theorem GoodP.app {isn : Int} {sd b : List Int} {p : Prt} (h : GoodP isn sd p) : GoodP isn (sd ++ b) p :=
  ⟨h.f0, h.f1, h.w0, h.w1, h.syn, fun hd => by obtain ⟨a, h1, h2⟩ := h.dat hd; exact ⟨a, h1, sub_app h2⟩, h.l⟩
theorem EI.app {isn isnO : Int} {sn so rd b : List Int} {x : St} (h : EI isn isnO sn so rd x) : EI isn isnO sn (so ++ b) rd x :=
  ⟨h.ok, h.all, h.num, h.peer, h.buf, by rw [List.take_append_of_le_length (by have := h.nx; omega)]; exact h.txt, by have := h.nx; simp; omega, fun p hp => sub_app (h.kept p hp)⟩
theorem room_b (x : St) : 0 ≤ roomV x ∧ roomV x ≤ 1024 := by
  unfold roomV Win.offerV
  split
  · simp
  · split <;> simp <;> omega
section
variable {isn isnO : Int} {sn so rd : List Int} {x : St} (h : EI isn isnO sn so rd x)
include h
theorem good_part (f a : Int) (hf : f = 2 ∨ f = 6 ∨ f = 10) (d : List Int) (hd : d ≠ [] → Sub sn ⟨a, d⟩) (hl : d.length ≤ 64) : GoodP isn sn (partV x f a d) := by
  have hr := room_b x
  refine ⟨?_, ?_, hr.1, by show roomV x < 65536; omega, fun hs => ?_, fun hne => ⟨a, by show add32 x.isn (1 + a) = _; rw [h.num], hd hne⟩, hl⟩
  · show 0 ≤ f; omega
  · show f ≤ 15; omega
  · change has f 1 = true at hs
    rcases hf with rfl | rfl | rfl <;> exact absurd hs (by decide)
theorem good_answer : GoodP isn sn (answerV x) := good_part h 2 _ (.inl rfl) [] (by simp) (by simp)
theorem good_begins : GoodP isn sn (beginsV x) := by
  have hr := room_b x
  unfold beginsV
  split
  · exact ⟨by show (0 : Int) ≤ 3; decide, by show (3 : Int) ≤ 15; decide, hr.1, by show roomV x < 65536; omega, fun _ => ⟨h.num, rfl⟩, by simp, by simp⟩
  · exact ⟨by show (0 : Int) ≤ 1; decide, by show (1 : Int) ≤ 15; decide, hr.1, by show roomV x < 65536; omega, fun _ => ⟨h.num, rfl⟩, by simp, by simp⟩
theorem EI.shows : EI isn isnO sn so rd (shows x) := ⟨h.ok.shows, h.all, h.num, h.peer, h.buf, h.txt, h.nx, h.kept⟩
theorem EI.done (b : Bool) : EI isn isnO sn so rd (doneV x b) := ⟨h.ok.done b, h.all, h.num, fun q => by simp [doneV] at q, h.buf, h.txt, h.nx, h.kept⟩
theorem ack_a (v : Win.Wn) (u r : Int) : v.a ≤ (Win.ackV v u r).1.a := by
  unfold Win.ackV
  (repeat' split) <;> simp <;> omega
theorem EI.opens (r : Int) (hp : x.peer = isnO) : EI isn isnO sn so rd (opensV x r) :=
  ⟨h.ok.opens r, h.all, h.num, fun _ => hp, by have := ack_a h x.win 0 r; have := h.buf; show x.all.length - (Win.ackV x.win 0 r).1.a ≤ 4096; omega, h.txt, h.nx, h.kept⟩
theorem EI.acks (p : Prt) : EI isn isnO sn so rd (acksV x p) := by
  have hok := h.ok.acks p
  have ha := ack_a h x.win (uptoV x p) p.win
  have hb := h.buf
  unfold acksV at hok ⊢
  generalize (Win.ackV x.win (uptoV x p) p.win).1 = v at *
  generalize (Win.ackV x.win (uptoV x p) p.win).2.1 = more at *
  unfold acks2V at hok ⊢
  split
  · rename_i g
    rw [if_pos g] at hok
    exact ⟨hok, h.all, h.num, h.peer, by simp only []; omega, h.txt, h.nx, h.kept⟩
  rename_i g
  rw [if_neg g] at hok
  split
  · rename_i g2
    rw [if_pos g2] at hok
    exact ⟨hok, h.all, h.num, h.peer, by simp only []; omega, h.txt, h.nx, h.kept⟩
  · rename_i g2
    rw [if_neg g2] at hok
    exact ⟨hok, h.all, h.num, h.peer, by simp only []; omega, h.txt, h.nx, h.kept⟩
end
/-- The place of a part that is near. -/
theorem place_eq {isn a near : Int} (h0 : 0 ≤ isn) (h1 : isn < 4294967296) (a0 : 0 ≤ a) (a1 : a ≤ 1000000) (n0 : 0 ≤ near) (n1 : near ≤ 1000000) : placeV (add32 isn (1 + a)) isn near = a := by
  unfold placeV add32
  have e : ((isn + (1 + a)) % 4294967296 - isn - 1) % 4294967296 = a := by omega
  rw [e]
  unfold Sne.nearV
  rw [if_neg (by omega)]
  dsimp only
  have hm : near % 4294967296 = near := by omega
  rw [hm]
  rw [if_neg (by omega), if_neg (by omega), if_neg (by omega)]
  simp only []
  omega
theorem putV_txt {so : List Int} {h : Hp} {a : Int} {d : List Int} (hi : Inv h) (hn : h.next ≤ so.length) (hk : ∀ p ∈ h.kept, Sub so p) (hs : Sub so ⟨a, d⟩) :
    h.next ≤ (putV h a d).1.next ∧ (putV h a d).1.next ≤ so.length ∧ (putV h a d).2.1 = seg so h.next (putV h a d).1.next ∧ ∀ p ∈ (putV h a d).1.kept, Sub so p := by
  have h0 : h.next ≤ h.next ∧ h.next ≤ so.length ∧ ([] : List Int) = seg so h.next h.next ∧ ∀ p ∈ h.kept, Sub so p := ⟨Int.le_refl _, hn, (seg_self _ _).symm, hk⟩
  have hn0 := hi.n0
  have s0 := hs.a0
  have s2 := hs.hi
  have s3 := hs.eq
  dsimp only at s0 s2 s3
  unfold putV
  split
  · exact h0
  split
  · exact h0
  split
  · exact h0
  rename_i g1 g2 g3
  split
  · rename_i g4
    obtain ⟨d1, d2, d3, _⟩ := drain_txt so h.kept.length (a + d.length) h.kept (Nat.le_refl _) (by omega) s2 hk
    refine ⟨by simp only []; omega, d2, ?_, fun p hp => hk p (drain_mem _ _ _ _ hp)⟩
    simp only []
    rw [d3, ← seg_app so hn0 (show h.next ≤ a + d.length by omega) d1]
    congr 1
    have := seg_drop so s0 g4 (show h.next ≤ a + d.length by omega)
    rw [← s3] at this
    exact this
  split
  · exact h0
  split
  · exact h0
  · refine ⟨Int.le_refl _, hn, (seg_self _ _).symm, fun p hp => ?_⟩
    rcases List.mem_append.1 hp with hp | hp
    · exact hk p hp
    · rw [List.mem_singleton] at hp
      subst hp
      exact hs
theorem take_seg (t : List Int) {a b : Int} (h0 : 0 ≤ a) (h1 : a ≤ b) : t.take a.toNat ++ seg t a b = t.take b.toNat := by
  have := seg_app t (Int.le_refl 0) h0 h1
  have e : ∀ c : Int, seg t 0 c = t.take c.toNat := fun c => by unfold seg; simp
  rwa [e, e] at this
section
variable {isn isnO : Int} {sn so rd : List Int} {x : St} (h : EI isn isnO sn so rd x) (i0 : 0 ≤ isnO) (i1 : isnO < 4294967296) (ls : so.length ≤ 1000000)
include h i0 i1 ls
theorem EI.data {p : Prt} (g : GoodP isnO so p) (h4 : x.at_ = 4) : EI isn isnO sn so rd (dataV x p) := by
  have hok := h.ok.data p (by have := g.l; omega)
  have hi := h.ok.s.hi
  have h1 : Inv (data1V x p) := by unfold data1V; split; exact end_inv hi _; exact hi
  obtain ⟨e1, e2⟩ := data1_same x p
  have hnx := h.nx
  have hn0 := hi.n0
  rw [dataV_eq] at hok ⊢
  split
  · rename_i q
    rw [if_pos q] at hok
    obtain ⟨q1, q2⟩ := q
    have hne : p.d ≠ [] := by intro e; rw [e] at q1; simp at q1
    obtain ⟨a, hs, hsub⟩ := g.dat hne
    have a0 := hsub.a0
    have a2 := hsub.hi
    dsimp only at a0 a2
    have hpl : placeV p.seq x.peer x.heap.next = a := by
      rw [hs, h.peer (.inr h4)]
      exact place_eq i0 i1 a0 (by omega) hn0 (by omega)
    rw [hpl] at hok ⊢
    have hput := putV_txt h1 (by rw [e1]; exact hnx) (by rw [e2]; exact h.kept) hsub
    generalize putV (data1V x p) a p.d = t at *
    obtain ⟨k1, k2, k3, k4⟩ := hput
    rw [e1] at k1 k3
    refine ⟨hok, h.all, h.num, h.peer, h.buf, ?_, k2, k4⟩
    show rd ++ (x.unread ++ t.2.1) = so.take t.1.next.toNat
    rw [← List.append_assoc, h.txt, k3]
    exact take_seg so hn0 k1
  · rename_i q
    rw [if_neg q] at hok
    refine ⟨hok, h.all, h.num, h.peer, h.buf, ?_, by show (data1V x p).next ≤ _; rw [e1]; exact hnx, by show ∀ p ∈ (data1V x _).kept, _; rw [e2]; exact h.kept⟩
    show rd ++ x.unread = so.take (data1V x p).next.toNat
    rw [e1]
    exact h.txt
theorem EI.open_ {p : Prt} (g : GoodP isnO so p) (h4 : x.at_ = 4) : EI isn isnO sn so rd (openV x p).1 ∧ ∀ q ∈ (openV x p).2, GoodP isn sn q := by
  unfold openV
  split
  · refine ⟨?_, by simp⟩
    split
    · exact h.done true
    · exact h
  split
  · exact ⟨h.shows, by simp; exact good_answer h⟩
  split
  · exact ⟨h, by simp⟩
  dsimp only
  have h1 := h.acks p
  have h14 : (acksV x p).at_ = 4 := by unfold acksV acks2V; (repeat' split) <;> exact h4
  have h2 : EI isn isnO sn so rd (if (acksV x p).ended then acksV x p else dataV (acksV x p) p) := by
    split
    · exact h1
    · exact h1.data i0 i1 ls g h14
  generalize (if (acksV x p).ended then acksV x p else dataV (acksV x p) p) = y at *
  split
  · exact ⟨h2, by simp⟩
  · exact ⟨h2.shows, by simp; exact good_answer h2⟩
theorem EI.listen {p : Prt} (g : GoodP isnO so p) : EI isn isnO sn so rd (listenV x p).1 ∧ ∀ q ∈ (listenV x p).2, GoodP isn sn q := by
  unfold listenV
  split
  · rename_i hf
    have hp := (g.syn (by rw [hf]; decide)).1
    have h1 : EI isn isnO sn so rd { x with peer := p.seq, at_ := 3 } := ⟨h.ok.peer p.seq 3 (by decide) (by decide), h.all, h.num, fun _ => hp, h.buf, h.txt, h.nx, h.kept⟩
    exact ⟨h1.shows, by simp; exact good_begins h1⟩
  · exact ⟨h, by simp⟩
theorem EI.calls {p : Prt} (g : GoodP isnO so p) : EI isn isnO sn so rd (callsV x p).1 ∧ ∀ q ∈ (callsV x p).2, GoodP isn sn q := by
  unfold callsV
  split
  · exact h.listen i0 i1 ls g
  split
  · exact ⟨h, by simp⟩
  split
  · rename_i hf
    have hp := (g.syn (by rw [hf]; decide)).1
    have h1 : EI isn isnO sn so rd { x with peer := p.seq } := ⟨h.ok.peer' p.seq, h.all, h.num, fun _ => hp, h.buf, h.txt, h.nx, h.kept⟩
    have h2 := h1.opens p.win hp
    exact ⟨h2.shows, by simp; exact good_answer h2⟩
  split
  · exact ⟨h.done true, by simp⟩
  · exact ⟨h, by simp⟩
theorem EI.heard {p : Prt} (g : GoodP isnO so p) (h3 : x.at_ = 3) : EI isn isnO sn so rd (heardV x p).1 ∧ ∀ q ∈ (heardV x p).2, GoodP isn sn q := by
  have hp := h.peer (.inl h3)
  have h2 := h.opens p.win hp
  unfold heardV
  split
  · exact h.listen i0 i1 ls g
  split
  · exact ⟨h2.shows, by simp; exact good_answer h2⟩
  split
  · rename_i hr
    unfold openV
    rw [if_pos hr]
    refine ⟨?_, by simp⟩
    split
    · exact h.done true
    · exact h
  split
  · exact ⟨h, by simp⟩
  · exact h2.open_ i0 i1 ls g rfl
theorem EI.comes {p : Prt} (g : GoodP isnO so p) : EI isn isnO sn so rd (comesV x p).1 ∧ ∀ q ∈ (comesV x p).2, GoodP isn sn q := by
  unfold comesV
  split
  · exact h.listen i0 i1 ls g
  split
  · exact h.calls i0 i1 ls g
  split
  · rename_i h3
    exact h.heard i0 i1 ls g h3
  split
  · rename_i h4
    exact h.open_ i0 i1 ls g h4
  · unfold endedV
    split
    · exact ⟨h, by simp⟩
    · exact ⟨h.shows, by simp; exact good_answer h⟩
end
section
variable {isn isnO : Int} {sn so rd : List Int} {x : St} (h : EI isn isnO sn so rd x)
include h
theorem EI.rests : EI isn isnO sn so rd (restsV x) := by
  have hok := h.ok.rests
  unfold restsV at hok ⊢
  split
  · rw [if_pos (by assumption)] at hok
    exact ⟨hok, h.all, h.num, h.peer, h.buf, h.txt, h.nx, h.kept⟩
  rw [if_neg (by assumption)] at hok
  split
  · rw [if_pos (by assumption)] at hok
    exact ⟨hok, h.all, h.num, h.peer, h.buf, h.txt, h.nx, h.kept⟩
  · exact h
theorem sub_seg {a n : Int} (a0 : 0 ≤ a) (n0 : 0 < n) (hl : a + n ≤ x.all.length) : Sub sn ⟨a, (x.all.drop a.toNat).take n.toNat⟩ := by
  have hln : ((x.all.drop a.toNat).take n.toNat).length = n.toNat := by rw [List.length_take, List.length_drop]; omega
  rw [← h.all]
  refine ⟨a0, by simp only []; omega, by simp only [hln]; omega, ?_⟩
  simp only [hln]
  unfold seg
  congr 1
  omega
theorem EI.send (hp : 0 < nextV x) : EI isn isnO sn so rd (sendV x).1 ∧ GoodP isn sn (sendV x).2 := by
  have hok := h.ok.send hp
  obtain ⟨b1, b2, b3⟩ := next_bd hp
  obtain ⟨t1, t2, t3, t4⟩ := takes_ok h.ok.s hp
  have hwb := Win.Inv.bd h.ok.s.hw
  rw [sendV_eq] at hok ⊢
  dsimp only at hok ⊢
  have hk : EI isn isnO sn so rd (takesV x (nextV x)) := by
    refine ⟨⟨t1, h.ok.at0, h.ok.at5, h.ok.un, h.ok.kb, h.ok.nb⟩, h.all, h.num, h.peer, ?_, h.txt, h.nx, h.kept⟩
    show (x.all.length : Int) - (takesV x (nextV x)).win.a ≤ 4096
    rw [t3]
    exact h.buf
  refine ⟨?_, good_part hk 2 _ (.inl rfl) _ (fun _ => sub_seg h (by omega) hp t4) (by rw [List.length_take]; omega)⟩
  have h2 := hk.shows
  unfold timesV at hok ⊢
  split
  · rw [if_pos (by assumption)] at hok
    exact ⟨hok, h2.all, h2.num, h2.peer, h2.buf, h2.txt, h2.nx, h2.kept⟩
  · exact h2
end
theorem EI.loop {isn isnO : Int} {sn so rd : List Int} : ∀ (k : Nat) (x : St), EI isn isnO sn so rd x → EI isn isnO sn so rd (loopV k x).1 ∧ ∀ q ∈ (loopV k x).2, GoodP isn sn q
  | 0, x, h => ⟨h, by simp [loopV]⟩
  | k + 1, x, h => by
    by_cases hp : 0 < nextV x
    · rw [loop_go k x hp]
      obtain ⟨h1, g1⟩ := h.send hp
      obtain ⟨h2, g2⟩ := EI.loop k _ h1
      exact ⟨h2, fun q hq => by
        rcases List.mem_cons.1 hq with rfl | hq
        · exact g1
        · exact g2 q hq⟩
    · rw [loop_stop _ x hp]
      exact ⟨h, by simp⟩
section
variable {isn isnO : Int} {sn so rd : List Int} {x : St} (h : EI isn isnO sn so rd x)
include h
theorem EI.closes : EI isn isnO sn so rd (closesV x).1 ∧ ∀ q ∈ (closesV x).2, GoodP isn sn q := by
  have hok := h.ok.closes
  unfold closesV at hok ⊢
  split
  · rw [if_pos (by assumption)] at hok
    exact ⟨⟨hok, h.all, h.num, h.peer, h.buf, h.txt, h.nx, h.kept⟩, by simp; exact good_part h 6 _ (.inr (.inl rfl)) [] (by simp) (by simp)⟩
  · exact ⟨h, by simp⟩
theorem EI.last : EI isn isnO sn so rd (lastV x) := by
  unfold lastV
  split
  · exact h.done _
  · exact h
theorem EI.sends : EI isn isnO sn so rd (sendsV x).1 ∧ ∀ q ∈ (sendsV x).2, GoodP isn sn q := by
  by_cases h4 : x.at_ = 4
  · rw [sendsV_open x h4]
    obtain ⟨h1, g1⟩ := EI.loop x.all.length x h
    obtain ⟨h2, g2⟩ := h1.closes
    exact ⟨h2.last.rests, fun q hq => by
      rcases List.mem_append.1 hq with hq | hq
      · exact g1 q hq
      · exact g2 q hq⟩
  · rw [sendsV_else x h4]
    exact ⟨h.rests, by simp⟩
theorem EI.come {p : Prt} (i0 : 0 ≤ isnO) (i1 : isnO < 4294967296) (ls : so.length ≤ 1000000) (g : GoodP isnO so p) : EI isn isnO sn so rd (comeV x p).1 ∧ ∀ q ∈ (comeV x p).2.1, GoodP isn sn q := by
  unfold comeV
  split
  · exact ⟨h, by simp⟩
  · obtain ⟨h1, g1⟩ := h.comes i0 i1 ls g
    obtain ⟨h2, g2⟩ := h1.sends
    exact ⟨h2, fun q hq => by
      rcases List.mem_append.1 hq with hq | hq
      · exact g1 q hq
      · exact g2 q hq⟩
theorem EI.close : EI isn isnO sn so rd (closeV x).1 ∧ ∀ q ∈ (closeV x).2.1, GoodP isn sn q := by
  unfold closeV
  split
  · exact ⟨h, by simp⟩
  · exact EI.sends ⟨⟨⟨h.ok.s.hi, h.ok.s.hu, h.ok.s.hw, h.ok.s.hc, h.ok.s.hm, h.ok.s.hl, h.ok.s.n0, h.ok.s.n1, h.ok.s.s0, h.ok.s.s1⟩, h.ok.at0, h.ok.at5, h.ok.un, h.ok.kb, h.ok.nb⟩, h.all, h.num, h.peer, h.buf, h.txt, h.nx, h.kept⟩
/-- What was written stands behind a write that is taken. -/
theorem EI.write (b : List Int) (hl : sn.length + b.length ≤ 1000000) : EI isn isnO (if (writeV x b).2.2 = 0 then sn ++ b else sn) so rd (writeV x b).1 ∧ ∀ q ∈ (writeV x b).2.1, GoodP isn (if (writeV x b).2.2 = 0 then sn ++ b else sn) q := by
  unfold writeV
  split
  · exact ⟨by simpa using h, by simp⟩
  split
  · exact ⟨by simpa using h, by simp⟩
  · rename_i g1 g2
    have h1 : EI isn isnO (sn ++ b) so rd { x with all := x.all ++ b } := by
      refine ⟨⟨⟨h.ok.s.hi, h.ok.s.hu, h.ok.s.hw, h.ok.s.hc, ?_, ?_, h.ok.s.n0, h.ok.s.n1, h.ok.s.s0, h.ok.s.s1⟩, h.ok.at0, h.ok.at5, h.ok.un, h.ok.kb, h.ok.nb⟩, by show x.all ++ b = _; rw [h.all], h.num, h.peer, ?_, h.txt, h.nx, h.kept⟩
      · have := h.ok.s.hm; simp only [List.length_append]; omega
      · rw [h.all]; simp only [List.length_append]; omega
      · simp only [List.length_append]; omega
    simpa using h1.sends
theorem EI.read : EI isn isnO sn so (rd ++ x.unread) (readV x).1 ∧ ∀ q ∈ (readV x).2.2, GoodP isn sn q := by
  have hok := h.ok.read
  have h0 : Ok { x with unread := [] } := ⟨⟨h.ok.s.hi, by simp, h.ok.s.hw, h.ok.s.hc, h.ok.s.hm, h.ok.s.hl, h.ok.s.n0, h.ok.s.n1, h.ok.s.s0, h.ok.s.s1⟩, h.ok.at0, h.ok.at5, by have := h.ok.un; simp; omega, fun p hp => by have := h.ok.kb p hp; have := h.ok.un; simp; omega, h.ok.nb⟩
  have h1 : EI isn isnO sn so (rd ++ x.unread) { x with unread := [] } := ⟨h0, h.all, h.num, h.peer, h.buf, by simpa using h.txt, h.nx, h.kept⟩
  unfold readV
  dsimp only
  split
  · exact ⟨h1.shows, by simp; exact good_answer h1⟩
  · exact ⟨h1, by simp⟩
theorem EI.again (hw : waitsV x = true) : EI isn isnO sn so rd (againV x).1 ∧ GoodP isn sn (againV x).2 := by
  have hok := h.ok.again hw
  have hwb := Win.Inv.bd h.ok.s.hw
  have hm := h.ok.s.hm
  unfold againV at hok ⊢
  split
  · exact ⟨h.shows, good_begins h⟩
  rename_i h4
  rw [if_neg h4] at hok
  split
  · rename_i hn
    exact ⟨h.shows, good_part h 2 _ (.inl rfl) _ (fun _ => sub_seg h hwb.1 hn (by omega)) (by rw [List.length_take]; omega)⟩
  rename_i hn
  rw [if_neg hn] at hok
  split
  · exact ⟨h.shows, good_part h 6 _ (.inr (.inl rfl)) _ (by simp) (by simp)⟩
  rename_i hf
  rw [if_neg hf] at hok
  obtain ⟨z1, z2⟩ := again_probe h.ok hw (by omega) hn (by simpa using hf)
  have hv : Win.probeV x.win = (⟨x.win.a, x.win.s, max x.win.m (x.win.a + 1), x.win.l⟩, x.win.a, 0) := by unfold Win.probeV; rw [if_pos z1]
  rw [hv] at hok ⊢
  dsimp only at hok ⊢
  have h1 : EI isn isnO sn so rd { x with win := ⟨x.win.a, x.win.s, max x.win.m (x.win.a + 1), x.win.l⟩ } := ⟨⟨⟨h.ok.s.hi, h.ok.s.hu, hok.s.hw, h.ok.s.hc, hok.s.hm, h.ok.s.hl, h.ok.s.n0, h.ok.s.n1, h.ok.s.s0, h.ok.s.s1⟩, h.ok.at0, h.ok.at5, h.ok.un, h.ok.kb, h.ok.nb⟩, h.all, h.num, h.peer, h.buf, h.txt, h.nx, h.kept⟩
  exact ⟨h1.shows, good_part h1 2 _ (.inl rfl) _ (fun _ => by have := sub_seg h (a := x.win.a) (n := 1) hwb.1 (by decide) (by omega); simpa using this) (by rw [List.length_take]; omega)⟩
theorem EI.tick (r : Rest x) (hn : x.now + 1 ≤ 1000000) : EI isn isnO sn so rd (tickV x).1 ∧ ∀ q ∈ (tickV x).2, GoodP isn sn q := by
  have h0 : Ok { x with now := x.now + 1 } := ⟨⟨h.ok.s.hi, h.ok.s.hu, h.ok.s.hw, h.ok.s.hc, h.ok.s.hm, h.ok.s.hl, by have := h.ok.s.n0; simp only []; omega, by simp only []; omega, h.ok.s.s0, h.ok.s.s1⟩, h.ok.at0, h.ok.at5, h.ok.un, h.ok.kb, hn⟩
  unfold tickV
  dsimp only
  split
  · rename_i hd
    have hw : waitsV x = true := r.symm.trans (due_rn hd)
    have k1 : Ok { x with now := x.now + 1, clk := (Rto.lateV x.clk (x.now + 1)).1 } := ⟨⟨h.ok.s.hi, h.ok.s.hu, h.ok.s.hw, Rto.late_inv h.ok.s.hc _, h.ok.s.hm, h.ok.s.hl, by have := h.ok.s.n0; simp only []; omega, by simp only []; omega, h.ok.s.s0, h.ok.s.s1⟩, h.ok.at0, h.ok.at5, h.ok.un, h.ok.kb, hn⟩
    split
    · have h2 : EI isn isnO sn so rd { x with now := x.now + 1, clk := (Rto.lateV x.clk (x.now + 1)).1, timed := 0 } := ⟨⟨⟨k1.s.hi, k1.s.hu, k1.s.hw, k1.s.hc, k1.s.hm, k1.s.hl, k1.s.n0, k1.s.n1, k1.s.s0, k1.s.s1⟩, k1.at0, k1.at5, k1.un, k1.kb, k1.nb⟩, h.all, h.num, h.peer, h.buf, h.txt, h.nx, h.kept⟩
      obtain ⟨h3, g3⟩ := h2.again hw
      exact ⟨h3.rests, by simp; exact g3⟩
    · have h2 : EI isn isnO sn so rd { x with now := x.now + 1, clk := (Rto.lateV x.clk (x.now + 1)).1 } := ⟨k1, h.all, h.num, h.peer, h.buf, h.txt, h.nx, h.kept⟩
      exact ⟨(h2.done true).rests, by simp⟩
  · exact ⟨⟨h0, h.all, h.num, h.peer, h.buf, h.txt, h.nx, h.kept⟩, by simp⟩
/-- What the law asks. -/
theorem EI.asks : rd = so.take rd.length ∧ rd.length ≤ so.length ∧ x.win.a ≤ x.win.s ∧ x.win.m ≤ x.all.length ∧ x.all.length = sn.length ∧ x.heap.next = rd.length + x.unread.length ∧ x.all.length - x.win.a ≤ 4096 ∧ x.unread.length ≤ 1024 := by
  have hw := Win.Inv.bd h.ok.s.hw
  have hn := h.nx
  have hn0 := h.ok.s.hi.n0
  have hl := congrArg List.length h.txt
  rw [List.length_append, List.length_take] at hl
  refine ⟨?_, by omega, hw.2.1, h.ok.s.hm, by rw [h.all], by omega, h.buf, h.ok.s.hu⟩
  have := congrArg (List.take rd.length) h.txt
  rw [List.take_left, List.take_take, show min rd.length x.heap.next.toNat = rd.length by omega] at this
  exact this
end
theorem EI.new (isn isnO : Int) (c : Bool) : EI isn isnO [] [] [] (newSV isn c).1 ∧ ∀ q ∈ (newSV isn c).2, GoodP isn [] q := by
  have hb : ∀ a, 1 ≤ a → a ≤ 2 → EI isn isnO [] [] [] (newS isn a) := fun a h1 h2 => ⟨Ok.new isn a h1 (by omega), rfl, rfl, fun h => by simp [newS] at h; omega, by simp [newS], rfl, by simp [newS, newV], by simp [newS, newV]⟩
  unfold newSV
  cases c
  · exact ⟨hb 1 (by decide) (by decide), by simp⟩
  · have h := hb 2 (by decide) (by decide)
    exact ⟨h.shows.rests, by simp; exact good_begins h⟩
end Go.Proofs.Ytmgdbbbdhkfdmaa

/-
  begins: does a text begin with another one?
-/
namespace Go.Proofs.Ytmgdbbbdhkfdmaa
set_option maxRecDepth 100000
open Go.RowKit Go.Deep

set_option maxHeartbeats 2000000 in
theorem begins_any {T1 T2 : Nat → Prop} (A1 : Option Addr) (c1 : Nat) (s r : List Int) (A2 : Option Addr) (c2 : Nat) (w : World) (h1 : Byt T1 w (.slice A1 s.length c1) s) (h2 : Byt T2 w (.slice A2 r.length c2) r) (hl : r.length ≤ s.length) (hp : r = s.take r.length) :
    Calls Try.prog 19 #[.slice A1 s.length c1, .slice A2 r.length c2] w fun e w' => e = .returned (.bool true) ∧ Fr [] w w' := by
  have q2 : c1 ≤ maxLen ∧ s.length ≤ c1 := by
    obtain ⟨A1', c1', hv1, q1, q2⟩ := h1.form
    injection hv1 with _ _ hc
    subst hc
    exact ⟨q2, q1⟩
  unfold maxLen at q2
  have ht := h1.take (k := r.length) hl
  rw [← hp] at ht
  have d0 : decide ((r.length : Int) ≤ (s.length : Int)) = true := by simpa using hl
  have k0 : (0 : Int) ≤ (r.length : Int) := by omega
  have k1 : (r.length : Int) ≤ (c1 : Int) := by omega
  have HT := Lib.hid ht
  have H2 := Lib.hid h2
  have SEE : Hid (∀ W, Fr [] w W → (convert 25 9 (.slice A1 r.length c1)).run Try.prog W = .ok (.string (strOfNums r)) W ∧ (convert 25 9 (.slice A2 r.length c2)).run Try.prog W = .ok (.string (strOfNums r)) W) := Lib.hid (fun W f =>
    ⟨(HT.out.fr f (by simp)).string (P := Try.prog) 25 5 Try.underlying25 Try.underlying5 9 Try.underlying9, (H2.out.fr f (by simp)).string (P := Try.prog) 25 5 Try.underlying25 Try.underlying5 9 Try.underlying9⟩)
  clear ht h2
  generalize strOfNums r = str at *
  generalize hrl : r.length = m at *
  generalize hsl : s.length = n at *
  clear hp h1 hrl hsl
  obtain ⟨x0, x1⟩ := SEE.out _ (Fr.refl [] w)
  go_enter Try.func19, Try.ntmps19
  go_upto_region 1 with fail
  go_region_held3 (fun w' => (convert 25 9 (.slice A1 m c1)).run Try.prog w' = .ok (.string str) w' ∧ (convert 25 9 (.slice A2 m c2)).run Try.prog w' = .ok (.string str) w')
    (first
      | (with_reducible exact SEE.out _ (Fr.refl [] w).drew)
      | go_keep)
    (fail)
  all_goals
    go_wp2_with fail
    go_ret
    exact ⟨rfl, (Fr.refl [] w).drew⟩
end Go.Proofs.Ytmgdbbbdhkfdmaa

namespace Go.Proofs.Ytmgdbbbdhkfdmaa
set_option maxRecDepth 100000
open Go.RowKit Go.ChangeShapes Go.WideShapes Go.Deep
section
variable {H : Type} {enc : TypeId × Value → H} {P : Program} {w : World} {base : Nat} {spare : Nat → Bool} {held : Bool}
theorem slice_fields {t e : TypeId} {fs : Array Field} {fuel : Nat} {a : Option Addr} {len cap : Nat} {x : DataW H × List MemPlace} (ht : P.underlying t = some (.slice e)) (he : P.underlying e = some (.struct fs))
    (hone : oneCellFields P fs = true) (hC : P.cellsOf e = fs.size) (h : DataW.trod enc P w base spare held fuel t [.slice a len cap] = some x) :
    len ≤ maxLen ∧ ∀ i, i < len → ∃ ad, a = some ad ∧ ∃ n, ∀ (j : Nat) (f : Field), fs[j]? = some f → ∃ (v : Value) (y : DataW H × List MemPlace), ad.block < w.heap.size ∧ w.cell? (ad.add (i * fs.size + j)) = some v ∧ DataW.trod enc P w base spare held n f.type [v] = some y := by
  rcases open_slice ht h with ⟨hcs, _⟩ | ⟨ad, l, c, m, n, D, Pl, hcs, hb, hl, hm, hmm, hx, hi⟩
  · simp at hcs
    obtain ⟨rfl, rfl, rfl⟩ := hcs
    exact ⟨by simp [maxLen], fun i hi => absurd hi (by omega)⟩
  · simp at hcs
    obtain ⟨rfl, rfl, rfl⟩ := hcs
    refine ⟨by omega, fun i hil => ⟨ad, rfl, ?_⟩⟩
    have hlm : len ≤ m := by rw [hmm]; split <;> omega
    obtain ⟨cs', hc, ht'⟩ := hi i (by omega)
    rw [hC] at hc
    obtain ⟨ys, n', hn', hy, hlen, hyl, hf⟩ := DataW.trod_struct he ht'
    obtain ⟨_, hcl, hat⟩ := World.cells?_some hc
    refine ⟨n', fun j f hj => ?_⟩
    obtain ⟨ho, hk⟩ := hone_of hone j f hj
    have hjl : j < fs.size := (Array.getElem?_eq_some_iff.1 hj).1
    have hcell := hat j hjl
    have hv : cs'[j]? = some (cs'[j]'(by omega)) := List.getElem?_eq_getElem (by omega)
    have h1 := hf j f hj
    rw [ho, hk] at h1
    have hone' : (cs'.drop j).take 1 = [cs'[j]'(by omega)] := by
      rw [List.drop_eq_getElem_cons (by omega)]
      rfl
    rw [hone'] at h1
    have hys : ys[j]? = some (ys[j]'(by omega)) := List.getElem?_eq_getElem (by omega)
    have hc2 : w.cell? (ad.add (i * fs.size + j)) = some (cs'[j]'(by omega)) := by rw [← Go.Deep.add_add, hcell, hv]
    refine ⟨_, _, ?_, hc2, h1.trans hys⟩
    have := World.block_lt_of_cell? w _ hc2
    rwa [block_add] at this
end
end Go.Proofs.Ytmgdbbbdhkfdmaa

/-
  The turns that come in; small.
-/
namespace Go.Proofs.Ytmgdbbbdhkfdmaa
set_option maxRecDepth 100000
open Go.RowKit Go.Deep

section
variable {H : Type} {enc : TypeId × Value → H} {w : World} {base : Nat} {spare : Nat → Bool} {held : Bool}
theorem reads_bytes {fuel : Nat} {v : Value} {x : DataW H × List MemPlace} (h : DataW.trod enc Try.prog w base spare held fuel 25 [v] = some x) : ∃ d : List Int, Byt (fun b => b < w.heap.size) w v d := by
  have h0 := h
  rcases Go.Deep.open_slice1 Try.underlying25 (by kernel_rfl) h with ⟨hcs, _⟩ | ⟨a, l, c, m, n, V, D, Pl, hcs, _, hl, hm, hmm, _, hcell⟩
  · simp at hcs
    subst hcs
    exact ⟨[], Byt.nil⟩
  · simp at hcs
    subst hcs
    obtain ⟨zs, hr, _, _⟩ := reads_ints Try.underlying25 Try.underlying5 (by kernel_rfl) h0
    refine ⟨(List.range l).map zs, ?_⟩
    unfold Byt
    rw [show ((List.range l).map zs).length = l by simp]
    refine ⟨by simp [byts], some a, c, rfl, hl, hm, fun h1 => ?_⟩
    obtain ⟨ad, e, hb, hc⟩ := hr 0 h1
    injection e with e
    subst e
    obtain ⟨b, o, spot⟩ := a
    have hsp : spot = none := by simpa [Addr.add] using World.cell?_spot hc
    subst hsp
    refine ⟨b, o, rfl, hb, fun j u hj => ?_⟩
    have hjl : j < l := by
      rcases Nat.lt_or_ge j l with h' | h'
      · exact h'
      · simp [byts, List.getElem?_eq_none (show (List.range l).length ≤ j by simpa using h')] at hj
    obtain ⟨ad', e', _, hc'⟩ := hr j hjl
    injection e' with e'
    subst e'
    rw [add_lit'] at hc'
    rw [hc', ← hj]
    simp [byts, hjl]
end

/-- A turn. -/
structure PTurn where
  kind : Int
  pick : Int
  keep : Bool
  d : List Int
  dv : Value
/-- The list of turns that came in. -/
def Turns (w : World) (B : Nat) (A : Option Addr) (n : Nat) (f : Nat → PTurn) : Prop :=
  ∀ i, i < n → ∃ b o, A = some ⟨b, o, none⟩ ∧ b < B ∧ w.cell? ⟨b, o + i * 4, none⟩ = some (.int .i64 (f i).kind) ∧ w.cell? ⟨b, o + i * 4 + 1, none⟩ = some (.int .i64 (f i).pick) ∧ w.cell? ⟨b, o + i * 4 + 2, none⟩ = some (.bool (f i).keep) ∧
    w.cell? ⟨b, o + i * 4 + 3, none⟩ = some (f i).dv ∧ Byt (fun b => b < B) w (f i).dv (f i).d
theorem Turns.fr {w w' : World} {B : Nat} {A : Option Addr} {n : Nat} {f : Nat → PTurn} {O : List Nat} (h : Turns w B A n f) (hf : Fr O w w') (hB : B ≤ w.heap.size) (hO : ∀ x ∈ O, B ≤ x) : Turns w' B A n f := by
  intro i hi
  obtain ⟨b, o, e, hb, h0, h1, h2, h3, h4⟩ := h i hi
  have hc : ∀ j, w'.cell? ⟨b, j, none⟩ = w.cell? ⟨b, j, none⟩ := fun j => hf.cell (p := ⟨b, j, none⟩) (by show b < _; omega) (fun hm => by have := hO _ hm; dsimp only at this; omega)
  exact ⟨b, o, e, hb, by rw [hc]; exact h0, by rw [hc]; exact h1, by rw [hc]; exact h2, by rw [hc]; exact h3, h4.fr hf (fun x hx hs => by have := hO _ hx; omega)⟩
theorem reads_turns {H : Type} {enc : TypeId × Value → H} {w : World} {base : Nat} {spare : Nat → Bool} {held : Bool} {fuel : Nat} {a : Option Addr} {len cap : Nat} {x : DataW H × List MemPlace}
    (h : DataW.trod enc Try.prog w base spare held fuel 55 [.slice a len cap] = some x) : len ≤ maxLen ∧ ∃ f, Turns w w.heap.size a len f := by
  have hu : ∃ f0 f1 f2 f3 : Field, Try.prog.underlying 65 = some (.struct #[f0, f1, f2, f3]) ∧ f0.type = 3 ∧ f1.type = 3 ∧ f2.type = 4 ∧ f3.type = 25 ∧ oneCellFields Try.prog #[f0, f1, f2, f3] = true := ⟨_, _, _, _, Try.underlying65, rfl, rfl, rfl, rfl, by kernel_rfl⟩
  obtain ⟨f0, f1, f2, f3, hs, t0, t1, t2, t3, hone⟩ := hu
  obtain ⟨hl, hf⟩ := slice_fields Try.underlying55 hs hone (by kernel_rfl) h
  refine ⟨hl, ?_⟩
  have key : ∀ i, ∃ p : PTurn, i < len → ∃ b o, a = some ⟨b, o, none⟩ ∧ b < w.heap.size ∧ w.cell? ⟨b, o + i * 4, none⟩ = some (.int .i64 p.kind) ∧ w.cell? ⟨b, o + i * 4 + 1, none⟩ = some (.int .i64 p.pick) ∧ w.cell? ⟨b, o + i * 4 + 2, none⟩ = some (.bool p.keep) ∧
      w.cell? ⟨b, o + i * 4 + 3, none⟩ = some p.dv ∧ Byt (fun b => b < w.heap.size) w p.dv p.d := by
    intro i
    by_cases hi : i < len
    · obtain ⟨ad, rfl, n, hj⟩ := hf i hi
      obtain ⟨v0, y0, hb, c0, d0⟩ := hj 0 f0 rfl
      obtain ⟨v1, y1, _, c1, d1⟩ := hj 1 f1 rfl
      obtain ⟨v2, y2, _, c2, d2⟩ := hj 2 f2 rfl
      obtain ⟨v3, y3, _, c3, d3⟩ := hj 3 f3 rfl
      rw [t0] at d0
      rw [t1] at d1
      rw [t2] at d2
      rw [t3] at d3
      obtain ⟨q0, e0, _, _⟩ := DataW.trod_int Try.underlying3 d0
      obtain ⟨q1, e1, _, _⟩ := DataW.trod_int Try.underlying3 d1
      obtain ⟨q3, e3, _⟩ := DataW.trod_bool Try.underlying4 d2
      obtain ⟨d, hd⟩ := reads_bytes d3
      simp only [List.cons.injEq, and_true] at e0 e1 e3
      subst e0 e1 e3
      obtain ⟨b, o, spot⟩ := ad
      have hsp : spot = none := by
        obtain ⟨ad', e', n', hj'⟩ := hf 0 (by omega)
        injection e' with e'
        subst e'
        obtain ⟨_, _, _, c', _⟩ := hj' 0 f0 rfl
        simpa [Addr.add] using World.cell?_spot c'
      subst hsp
      refine ⟨⟨q0, q1, q3, d, v3⟩, fun _ => ⟨b, o, rfl, hb, ?_, ?_, ?_, ?_, hd⟩⟩
      · rw [← c0, add_lit']; rfl
      · rw [← c1, add_lit']; simp [Nat.add_assoc]
      · rw [← c2, add_lit']; simp [Nat.add_assoc]
      · rw [← c3, add_lit']; simp [Nat.add_assoc]
    · exact ⟨⟨0, 0, false, [], undef⟩, fun h => absurd h hi⟩
  obtain ⟨F, hF⟩ := Classical.axiomOfChoice key
  exact ⟨F, fun i hi => hF i hi⟩
def SmallPost (n : Nat) (f : Nat → PTurn) (w : World) (e : Ending) (w' : World) : Prop := ∃ b : Bool, e = .returned (.bool b) ∧ w = w' ∧ (b = true → n ≤ 120 ∧ ∀ i, i < n → (f i).d.length ≤ 300)
def SmallRel (n : Nat) (f : Nat → PTurn) (w : World) (s3 : Value) (wr : World) : Prop := ∃ k : Nat, k ≤ n ∧ s3 = .int .i64 k ∧ w = wr ∧ ∀ i, i < k → (f i).d.length ≤ 300
set_option maxHeartbeats 2000000 in
theorem small_any (w : World) (B : Nat) (A : Option Addr) (n c : Nat) (f : Nat → PTurn) (h : Turns w B A n f) (hn : n ≤ maxLen) : Calls Try.prog 16 #[.slice A n c] w (SmallPost n f w) := by
  have H := Lib.hid h
  unfold maxLen at hn
  clear h
  by_cases h60 : 120 < n
  · go_enter Try.func16, Try.ntmps16
    go_wp2
    go_ret
    exact ⟨false, rfl, rfl, by simp⟩
  · go_enter Try.func16, Try.ntmps16
    go_wp2
    go_loopw [3] (fun s3 wr => SmallRel n f w s3 wr) (fun s3 _ => n - (intOf s3).toNat)
    case atStart => exact ⟨0, by omega, rfl, rfl, by omega⟩
    case round =>
      obtain ⟨k, hk, rfl, rfl, hd⟩ := hrel
      have HD := Lib.hid hd
      clear hd
      by_cases hlt : k < n
      · obtain ⟨b, o, rfl, _, c0, c1, c2, c3, hby⟩ := H.out k hlt
        obtain ⟨dA, dc, hdv, hdn, hdc⟩ := hby.form
        rw [hdv] at c3
        clear hby hdv
        by_cases h1 : 300 < (f k).d.length
        · go_wp2
          go_ret
          exact ⟨false, rfl, rfl, by simp⟩
        · go_wp2
          go_roundw
          case rel => exact ⟨k + 1, by omega, by go_num, rfl, fun i hi => by
            rcases Nat.lt_or_ge i k with h' | h'
            · exact HD.out i h'
            · have : i = k := by omega
              subst this
              omega⟩
          case measure => simp [intOf]; omega
      · obtain rfl : n = k := by omega
        go_wp2
        go_ret
        exact ⟨true, rfl, rfl, fun _ => ⟨by omega, HD.out⟩⟩
end Go.Proofs.Ytmgdbbbdhkfdmaa
