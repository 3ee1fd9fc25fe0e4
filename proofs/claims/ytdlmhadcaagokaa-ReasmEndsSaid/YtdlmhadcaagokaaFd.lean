import Derived.Test.YtdlmhadcaagokaaFa
import Derived.Deep.DeepCutAuto
import Derived.Deep.RegionLaw
import Derived.Deep.RegionHeldLaw
namespace Go.Proofs.Ytdlmhadcaagokaa
open Go.RowKit Go.Deep Go.Shelf Go.ChangeShapes Go.WideShapes

/-- What the rows of some acts hold. -/
def acs (f : Nat → PAct) (n : Nat) : List Value := (List.range n).flatMap fun i => [.int .i64 (f i).kind, .int .i64 (f i).at_, (f i).dv, .bool (f i).near]
theorem acs_succ (f : Nat → PAct) (n : Nat) : acs f (n + 1) = acs f n ++ [.int .i64 (f n).kind, .int .i64 (f n).at_, (f n).dv, .bool (f n).near] := by
  simp [acs, List.range_succ]
theorem acs_len (f : Nat → PAct) : ∀ n, (acs f n).length = n * 4
  | 0 => rfl
  | n + 1 => by rw [acs_succ, List.length_append, acs_len f n]; simp; omega
theorem acs_get (f : Nat → PAct) : ∀ n i, i < n → (acs f n)[i * 4]? = some (.int .i64 (f i).kind) ∧ (acs f n)[i * 4 + 1]? = some (.int .i64 (f i).at_) ∧ (acs f n)[i * 4 + 2]? = some (f i).dv ∧ (acs f n)[i * 4 + 3]? = some (.bool (f i).near)
  | 0, i, h => by omega
  | n + 1, i, h => by
    have hl := acs_len f n
    rw [acs_succ]
    by_cases hi : i < n
    · obtain ⟨h0, h1, h2, h3⟩ := acs_get f n i hi
      refine ⟨?_, ?_, ?_, ?_⟩ <;> rw [List.getElem?_append_left (by omega)] <;> assumption
    · obtain rfl : i = n := by omega
      refine ⟨?_, ?_, ?_, ?_⟩ <;> rw [List.getElem?_append_right (by omega), hl] <;> simp [Nat.add_sub_cancel_left]
theorem acs_one (f : Nat → PAct) (n : Nat) (h : ∀ i, i < n → (f i).dv.oneCell' = true) : ∀ u ∈ acs f n, u.oneCell' = true := by
  intro u hu
  simp only [acs, List.mem_flatMap, List.mem_range] at hu
  obtain ⟨i, hi, hu⟩ := hu
  simp at hu
  rcases hu with rfl | rfl | rfl | rfl
  · rfl
  · rfl
  · exact h i hi
  · rfl
theorem acs_congr (f g : Nat → PAct) : ∀ n, (∀ i, i < n → f i = g i) → acs f n = acs g n
  | 0, _ => rfl
  | n + 1, h => by rw [acs_succ, acs_succ, acs_congr f g n (fun i hi => h i (by omega)), h n (by omega)]
/-- The acts as a slice that is read. -/
theorem Acts.sl {w : World} {B : Nat} {A : Option Addr} {n c : Nat} {f : Nat → PAct} (h : Acts w B A n f) (hn : n ≤ c) (hc : c ≤ maxLen) : Sl (fun b => b < B) w 4 (.slice A n c) n (acs f n) := by
  refine ⟨acs_len f n, A, c, rfl, hn, hc, fun h0 => ?_⟩
  obtain ⟨b, o, e, hb, _⟩ := h 0 h0
  refine ⟨b, o, e, hb, fun j u hj => ?_⟩
  have hjl : j < n * 4 := by
    rcases Nat.lt_or_ge j (n * 4) with h' | h'
    · exact h'
    · rw [List.getElem?_eq_none (by rw [acs_len]; omega)] at hj; cases hj
  obtain ⟨b', o', e', _, c0, c1, c2, c3, _⟩ := h (j / 4) (by omega)
  rw [e] at e'
  injection e' with e'
  injection e' with e1 e2
  subst e1 e2
  obtain ⟨g0, g1, g2, g3⟩ := acs_get f n (j / 4) (by omega)
  have hd : j = j / 4 * 4 ∨ j = j / 4 * 4 + 1 ∨ j = j / 4 * 4 + 2 ∨ j = j / 4 * 4 + 3 := by omega
  generalize j / 4 = q at *
  rcases hd with rfl | rfl | rfl | rfl
  · rw [g0] at hj; injection hj with hj; subst hj; exact c0
  · rw [g1] at hj; injection hj with hj; subst hj; rw [← Nat.add_assoc]; exact c1
  · rw [g2] at hj; injection hj with hj; subst hj; rw [← Nat.add_assoc]; exact c2
  · rw [g3] at hj; injection hj with hj; subst hj; rw [← Nat.add_assoc]; exact c3
theorem slice_cap {H : Type} {enc : TypeId × Value → H} {P : Program} {w : World} {base : Nat} {spare : Nat → Bool} {held : Bool} {t e : TypeId} {fuel : Nat} {a : Option Addr} {len cap : Nat} {x : DataW H × List MemPlace} (ht : P.underlying t = some (.slice e)) (h : DataW.trod enc P w base spare held fuel t [.slice a len cap] = some x) : len ≤ cap ∧ cap ≤ maxLen := by
  rcases open_slice ht h with ⟨hcs, _⟩ | ⟨ad, l, c, m, n, D, Pl, hcs, hb, hl, hm, hmm, hx, hi⟩
  · simp at hcs
    obtain ⟨rfl, rfl, rfl⟩ := hcs
    simp [maxLen]
  · simp at hcs
    obtain ⟨rfl, rfl, rfl⟩ := hcs
    exact ⟨hl, hm⟩
/-- A row of acts that is read as acts. -/
theorem acts_own {w : World} {A : Option Addr} {n c : Nat} {f : Nat → PAct} {e : TypeId} (h : w.ownsRow 0 e 4 (.slice A n c) n (acs f n)) (hb : ∀ i, i < n → Byt (fun b => b < w.heap.size) w (f i).dv (f i).d) : Acts w w.heap.size A n f := by
  intro i hi
  have hs := Sl.of_own (S := fun b => b < w.heap.size) h (fun b hb => own_lt h hb)
  obtain ⟨_, A', c', e1, _, _, hx⟩ := hs
  injection e1 with e1 _ _
  subst e1
  obtain ⟨b, o, e2, hb', hc⟩ := hx (by omega)
  obtain ⟨g0, g1, g2, g3⟩ := acs_get f n i hi
  exact ⟨b, o, e2, hb', hc _ _ g0, by rw [Nat.add_assoc]; exact hc _ _ g1, by rw [Nat.add_assoc]; exact hc _ _ g2, by rw [Nat.add_assoc]; exact hc _ _ g3, hb i hi⟩
theorem info_act : (Try.prog.info? 37).map (fun i => (i.zero, i.size, i.bytes)) = some (some (.agg #[.int .i64 0, .int .i64 0, .slice none 0 0, .bool false]), 4, 48) := by kernel_rfl
theorem Reads.lit {w : World} {B : Nat} {A : Option Addr} {n : Nat} {f : Nat → Value} (h : Reads w B A n f) {k : Nat} (hk : k < n) : ∃ b o, A = some ⟨b, o, none⟩ ∧ b < B ∧ w.cell? ⟨b, o + k, none⟩ = some (f k) := by
  obtain ⟨⟨b, o, spot⟩, e, hb, hc⟩ := h k hk
  obtain ⟨_, e', _, hc'⟩ := h 0 (by omega)
  rw [e] at e'
  injection e' with e'
  subst e'
  have hsp : spot = none := by simpa [Addr.add] using World.cell?_spot hc'
  subst hsp
  exact ⟨b, o, e, hb, by rw [add_lit'] at hc; exact hc⟩
theorem sl_new (X : World) (t : TypeId) (l : List Value) (h : l.length = 12) : Sl (fun _ => True) (X.alloc (.cells l.toArray t)) 4 (.slice (some ⟨X.heap.size, 0, none⟩) 3 3) 3 l := by
  refine ⟨h, _, 3, rfl, Nat.le_refl _, by simp [maxLen], fun _ => ⟨_, 0, rfl, trivial, fun j u hj => ?_⟩⟩
  rw [Nat.zero_add, (Blk.new X t l.toArray).cell j]
  simpa using hj
theorem conv_mark {w : World} {g : Nat} (h : Blk w g 5 #[.int .u8 120]) : ∃ w', (convert 35 35 (.slice (some ⟨g, 0, none⟩) 1 1)).run Try.prog w = .ok (.slice (some ⟨g, 0, none⟩) 1 1) w' ∧ Fr [g] w w' ∧ w'.cell? ⟨g, 0, none⟩ = some (.int .u8 120) := by
  have hsh : w.shape? g = some (5, 1) := by
    unfold World.shape?
    rw [show w.heap[g]? = _ from h]
    rfl
  refine ⟨w.freeze ⟨g, 1, none⟩ 1, ?_, ?_, ?_⟩
  · simp [convert, run_underlying Try.underlying35, run_underlying Try.underlying5, markStringish, hsh]
  · unfold World.freeze
    rw [if_neg (by decide)]
    refine ⟨rfl, rfl, rfl, by simp, fun k hk hn => ?_⟩
    have : ¬ g = k := fun e => hn (by simp [e])
    simp [Array.getElem?_modify, this]
  · unfold World.freeze
    rw [if_neg (by decide)]
    have h' : w.heap[g]? = some (.cells #[.int .u8 120] 5 (0, 0)) := h
    simp [World.cell?, Array.getElem?_modify, h']
def endF (F : Nat → PAct) (n : Nat) (z : Int) (B : Nat) : Nat → PAct := fun i => if i < n then F i else if i = n then ⟨2, z, [], true, .slice none 0 0⟩ else if i = n + 1 then ⟨1, z, [120], true, .slice (some ⟨B, 0, none⟩) 1 1⟩ else ⟨2, z + 1, [], true, .slice none 0 0⟩
def endL (z : Int) (B : Nat) : List Value := [.int .i64 2, .int .i64 z, .slice none 0 0, .bool true, .int .i64 1, .int .i64 z, .slice (some ⟨B, 0, none⟩) 1 1, .bool true, .int .i64 2, .int .i64 (z + 1), .slice none 0 0, .bool true]
theorem end_acs (F : Nat → PAct) (n : Nat) (z : Int) (B : Nat) : acs (endF F n z B) (n + 3) = ([] ++ acs F n) ++ endL z B := by
  rw [show n + 3 = n + 1 + 1 + 1 from rfl, acs_succ, acs_succ, acs_succ, acs_congr (endF F n z B) F n (fun i hi => by simp [endF, hi])]
  have e1 : ¬ n + 1 < n := by omega
  have e2 : ¬ n + 1 + 1 < n := by omega
  have e3 : ¬ n + 1 + 1 = n := by omega
  simp [endF, endL, e1, e2, e3]
def EndsPost (w : World) (n : Nat) (v : Value) (w' : World) : Prop := ∃ (A : Option Addr) (c : Nat) (f : Nat → PAct), v = .slice A (n + 3) c ∧ Acts w' w'.heap.size A (n + 3) f ∧ Fr [] w w'
theorem ends_post {w w9 : World} {A0 KA9 : Option Addr} {n KC9 B : Nat} {F : Nat → PAct} {z : Int} (hA : Acts w w.heap.size A0 n F) (f : Fr [] w w9) (own : w9.ownsRow 0 37 4 (.slice KA9 (n + 3) KC9) (n + 3) (([] ++ acs F n) ++ endL z B)) (hB : w9.cell? ⟨B, 0, none⟩ = some (.int .u8 120)) : EndsPost w n (.slice KA9 (n + 3) KC9) w9 := by
  rw [← end_acs] at own
  refine ⟨_, _, endF F n z B, rfl, acts_own own fun i hi => ?_, f⟩
  unfold endF
  by_cases h1 : i < n
  · simp only [if_pos h1]
    obtain ⟨_, _, _, _, _, _, _, _, hb⟩ := hA.fr f (Nat.le_refl _) (by simp) i h1
    exact hb.mono fun b hb => Nat.lt_of_lt_of_le hb f.size
  · simp only [if_neg h1]
    by_cases h2 : i = n
    · simp only [if_pos h2]
      exact Byt.nil
    · simp only [if_neg h2]
      by_cases h3 : i = n + 1
      · simp only [if_pos h3]
        refine ⟨rfl, _, 1, rfl, Nat.le_refl _, by simp [maxLen], fun _ => ⟨B, 0, rfl, World.block_lt_of_cell? w9 _ hB, fun j u hj => ?_⟩⟩
        rcases j with _ | j
        · simp [byts] at hj
          subst hj
          exact hB
        · simp [byts] at hj
      · simp only [if_neg h3]
        exact Byt.nil
/-- What stands behind the first append; Wq is the world in which the three new acts are laid. -/
structure EOwn (w : World) (n : Nat) (F : Nat → PAct) (KA8 : Option Addr) (KC8 B : Nat) (Wq : World) : Prop where
  own : Wq.ownsRow 0 37 4 (.slice KA8 n KC8) n ([] ++ acs F n)
  fr : Fr [] w Wq
  cb : Wq.cell? ⟨B, 0, none⟩ = some (.int .u8 120)
  nw : ∀ b ∈ ob (.slice KA8 n KC8), w.heap.size ≤ b ∧ b ≠ B
theorem EOwn.al {w : World} {n : Nat} {F : Nat → PAct} {KA8 : Option Addr} {KC8 B : Nat} {Wq : World} (h : EOwn w n F KA8 KC8 B Wq) (o : Obj) : EOwn w n F KA8 KC8 B (Wq.alloc o) :=
  ⟨own_fr h.own ((Fr.refl [] Wq).alloc o) (by simp), h.fr.alloc o, al1 h.cb o, h.nw⟩
theorem EOwn.end_ {w w9 : World} {n : Nat} {F : Nat → PAct} {A0 KA8 KA9 : Option Addr} {KC8 KC9 B : Nat} {Wq : World} {z : Int} (h : EOwn w n F KA8 KC8 B Wq) (hA : Acts w w.heap.size A0 n F) (own : w9.ownsRow 0 37 4 (.slice KA9 (n + 3) KC9) (n + 3) (([] ++ acs F n) ++ endL z B)) (f : Fr (ob (.slice KA8 n KC8)) Wq w9) : EndsPost w n (.slice KA9 (n + 3) KC9) w9 ∧ Fr [] w w9 := by
  have F9 := h.fr.trans f (fun x hx => .inr (h.nw x hx).1)
  exact ⟨ends_post hA F9 own (fr3 f h.cb (fun hm => (h.nw _ hm).2 rfl)), F9⟩
set_option maxRecDepth 100000 in
set_option maxHeartbeats 8000000 in
theorem ends_any (A0 : Option Addr) (n0 c0 : Nat) (F0 : Nat → PAct) (A1 : Option Addr) (n1 c1 : Nat) (zs : Nat → Int) (w : World) (h0 : Acts w w.heap.size A0 n0 F0) (hm0 : n0 ≤ maxLen) (hc0 : n0 ≤ c0 ∧ c0 ≤ maxLen) (h1 : Reads w w.heap.size A1 n1 (fun i => .int .i64 (zs i))) (hm1 : n1 ≤ maxLen) : Calls Try.prog 5 #[.slice A0 n0 c0, .slice A1 n1 c1] w fun e w' => e = .returned (.bool true) ∧ Fr [] w w' := by
  have H0 := Lib.hid h0
  have H1 := Lib.hid h1
  have C0 := Lib.hid hc0
  have hn1 : (n1 : Int) ≤ 9223372036854775807 := by unfold maxLen at hm1; omega
  clear h0 h1 hc0
  go_enter Try.func5, Try.ntmps5
  go_wp2_with fail
  refine (few_any w w.heap.size A0 n0 c0 F0 H0.out hm0).mono ?_
  rintro e w0 ⟨b1, rfl, rfl, hb1⟩
  cases b1
  · clear hb1
    go_wp2_with fail
    refine (known_any _).mono ?_
    rintro e wk ⟨rfl, fk⟩
    go_wp2_with fail
    go_ret
    exact ⟨rfl, fk⟩
  obtain ⟨_, hd1⟩ := hb1 rfl
  clear hb1
  have HD1 := Lib.hid hd1
  clear hd1
  by_cases hs : 20 < (n0 : Int)
  · go_wp2_with fail
    refine (known_any _).mono ?_
    rintro e wk ⟨rfl, fk⟩
    go_wp2_with fail
    go_ret
    exact ⟨rfl, fk⟩
  by_cases hs2 : 10 < (n1 : Int)
  · go_wp2_with fail
    refine (known_any _).mono ?_
    rintro e wk ⟨rfl, fk⟩
    go_wp2_with fail
    go_ret
    exact ⟨rfl, fk⟩
  have hs20 : n0 ≤ 20 := by omega
  go_wp2_with fail
  go_loopw [5] (fun v wr => ∃ k : Nat, k ≤ n1 ∧ v = .int .i64 k ∧ Fr [] w wr) (fun v _ => n1 - (intOf v).toNat)
  case atStart => exact ⟨0, by omega, rfl, Fr.refl _ _⟩
  case round =>
    obtain ⟨k, hk, rfl, fk⟩ := hrel
    have FK := Lib.hid fk
    by_cases hlt : k < n1
    · obtain ⟨b, o, rfl, hb, hcell⟩ := (H1.out.fr fk (Nat.le_refl _) (by simp)).lit hlt
      have hbz : b < wr.heap.size := by have := fk.size; omega
      have k64 : (k : Int) < 9223372036854775807 := by omega
      clear fk
      generalize he : zs k = z at *
      by_cases hz1 : z < -1000
      · go_wp2_with fail
        go_roundw
        case rel => exact ⟨k + 1, by omega, by go_num, FK.out⟩
        case measure => simp [intOf]; omega
      by_cases hz2 : 1000 < z
      · go_wp2_with fail
        go_roundw
        case rel => exact ⟨k + 1, by omega, by go_num, FK.out⟩
        case measure => simp [intOf]; omega
      have hz3 : -9223372036854775808 ≤ z + 1 := by omega
      have hz4 : z + 1 ≤ 9223372036854775807 := by omega
      have hzw : IntKind.i64.wrap (z + 1) = z + 1 := IntWalk.i64_in _ (by omega)
      obtain ⟨i1, hi1, hzA, hzB, hzC⟩ := info_parts info_act
      have HSL : Hid (∀ W8, Fr [] wr W8 → Sl (fun _ => True) W8 4 (.slice A0 n0 c0) n0 (acs F0 n0)) := Lib.hid (fun W8 f8 => (((H0.out.fr (FK.out.trans f8 (by simp)) (Nat.le_refl _) (by simp)).sl C0.out.1 C0.out.2).mono (fun _ _ => trivial)))
      have HOne : Hid (∀ u ∈ acs F0 n0, u.oneCell' = true) := Lib.hid (acs_one F0 n0 (fun i hi => by obtain ⟨_, _, _, _, _, _, _, _, by'⟩ := H0.out i hi; exact by'.one))
      have HLm1 : Hid (0 + n0 ≤ maxLen) := Lib.hid (by omega)
      have HLb1 : Hid ((0 + n0) * 48 ≤ 140737488355328) := Lib.hid (by omega)
      have HLm2 : Hid (n0 + 3 ≤ maxLen) := Lib.hid (by unfold maxLen; omega)
      have HLb2 : Hid ((n0 + 3) * 48 ≤ 140737488355328) := Lib.hid (by omega)
      have HN1 : Hid (0 + n0 = n0) := Lib.hid (by omega)
      have HN2 : Hid (n0 + 3 = n0 + 3) := Lib.hid rfl
      have HC : Hid (∀ W8, Fr [] wr W8 → W8.cell? ⟨b, o + k, none⟩ = some (.int .i64 z) ∧ b < W8.heap.size) := Lib.hid (fun W8 f8 => ⟨fr_cell f8 hcell, by have := f8.size; omega⟩)
      have HOne2 : Hid (∀ B, ∀ u ∈ endL z B, u.oneCell' = true) := Lib.hid (fun B => by simp [endL, Value.oneCell'])
      have HAr : Hid (Acts wr wr.heap.size A0 n0 F0) := Lib.hid (fun i hi => by
        obtain ⟨b', o', e1, e2, e3, e4, e5, e6, e7⟩ := H0.out.fr FK.out (Nat.le_refl _) (by simp) i hi
        exact ⟨b', o', e1, Nat.lt_of_lt_of_le e2 FK.out.size, e3, e4, e5, e6, e7.mono fun x hx => Nat.lt_of_lt_of_le hx FK.out.size⟩)
      have nil0 : ∀ b, (Value.slice none 0 0).ownBlock = some b → False := by simp [Value.ownBlock]
      have HEa : Hid (∀ (KA8 : Option Addr) (KC8 : Nat) (W8 Wi : World), W8.ownsRow 0 37 4 (.slice KA8 n0 KC8) n0 ([] ++ acs F0 n0) → Fr (ob (.slice none 0 0)) wr.drew W8 → (∀ b, (Value.slice KA8 n0 KC8).ownBlock = some b → (Value.slice none 0 0).ownBlock = some b ∨ (wr.drew.heap.size ≤ b ∧ b < W8.heap.size)) → Fr [] W8 Wi → Wi.cell? ⟨W8.heap.size, 0, none⟩ = some (.int .u8 120) → EOwn wr n0 F0 KA8 KC8 W8.heap.size Wi) := Lib.hid (fun KA8 KC8 W8 Wi h10 h11 h12 fi ci =>
        ⟨own_fr h10 fi (by simp), ((Fr.refl [] wr).drew.trans h11 (by simp [ob, Value.ownBlock])).trans fi (by simp), ci, fun b hb => by
          rcases h12 b (mem_ob.1 hb) with h | h
          · exact (nil0 b h).elim
          · exact ⟨h.1, by omega⟩⟩)
      have HEb : Hid (∀ (KA8 : Option Addr) (KC8 : Nat) (W8 Wi : World), W8.ownsRow 0 37 4 (.slice KA8 n0 KC8) n0 ([] ++ acs F0 n0) → Fr (ob (.slice none 0 0)) (wr.drew.alloc (.cells #[.int .u8 120] 5)) W8 → (∀ b, (Value.slice KA8 n0 KC8).ownBlock = some b → (Value.slice none 0 0).ownBlock = some b ∨ ((wr.drew.alloc (.cells #[.int .u8 120] 5)).heap.size ≤ b ∧ b < W8.heap.size)) → Fr [wr.heap.size] W8 Wi → Wi.cell? ⟨wr.heap.size, 0, none⟩ = some (.int .u8 120) → EOwn wr n0 F0 KA8 KC8 wr.heap.size Wi) := Lib.hid (fun KA8 KC8 W8 Wi h10 h11 h12 fi ci => by
        have hb : ∀ b, (Value.slice KA8 n0 KC8).ownBlock = some b → wr.heap.size + 1 ≤ b := fun b hb => by
          rcases h12 b hb with h | h
          · exact (nil0 b h).elim
          · have := h.1; simp at this; omega
        exact ⟨own_fr h10 fi (fun b h => by have := hb b h; simp; omega), (((Fr.refl [] wr).drew.alloc _).trans h11 (by simp [ob, Value.ownBlock])).trans fi (by simp), ci, fun b h => by have := hb b (mem_ob.1 h); omega⟩)
      obtain ⟨Wc, cvc, fc, cc⟩ := conv_mark (Blk.new wr.drew 5 #[.int .u8 120])
      have HFC : Hid (Fr [] wr Wc) := Lib.hid (((Fr.refl [] wr).drew.alloc _).trans fc (by simp))
      have hcz : wr.heap.size + 1 ≤ Wc.heap.size := by have := fc.size; simpa using this
      have HEc : Hid (∀ (KA8 : Option Addr) (KC8 : Nat) (W8 : World), W8.ownsRow 0 37 4 (.slice KA8 n0 KC8) n0 ([] ++ acs F0 n0) → Fr (ob (.slice none 0 0)) Wc W8 → (∀ b, (Value.slice KA8 n0 KC8).ownBlock = some b → (Value.slice none 0 0).ownBlock = some b ∨ (Wc.heap.size ≤ b ∧ b < W8.heap.size)) → EOwn wr n0 F0 KA8 KC8 wr.heap.size W8) := Lib.hid (fun KA8 KC8 W8 h10 h11 h12 => by
        have hb : ∀ b, (Value.slice KA8 n0 KC8).ownBlock = some b → wr.heap.size + 1 ≤ b := fun b hb => by
          rcases h12 b hb with h | h
          · exact (nil0 b h).elim
          · omega
        exact ⟨h10, HFC.out.trans h11 (by simp [ob, Value.ownBlock]), fr3 h11 cc (by simp [ob, Value.ownBlock]), fun b h => by have := hb b (mem_ob.1 h); omega⟩)
      have HEd : Hid (∀ (O : Obj) (KA8 : Option Addr) (KC8 : Nat) (W8 : World), W8.ownsRow 0 37 4 (.slice KA8 n0 KC8) n0 ([] ++ acs F0 n0) → Fr (ob (.slice none 0 0)) (Wc.alloc O) W8 → (∀ b, (Value.slice KA8 n0 KC8).ownBlock = some b → (Value.slice none 0 0).ownBlock = some b ∨ ((Wc.alloc O).heap.size ≤ b ∧ b < W8.heap.size)) → EOwn wr n0 F0 KA8 KC8 wr.heap.size W8) := Lib.hid (fun O KA8 KC8 W8 h10 h11 h12 => by
        have hb : ∀ b, (Value.slice KA8 n0 KC8).ownBlock = some b → wr.heap.size + 1 ≤ b := fun b hb => by
          rcases h12 b hb with h | h
          · exact (nil0 b h).elim
          · have := h.1; simp at this; omega
        exact ⟨h10, (HFC.out.alloc O).trans h11 (by simp [ob, Value.ownBlock]), fr3 h11 (al1 cc O) (by simp [ob, Value.ownBlock]), fun b h => by have := hb b (mem_ob.1 h); omega⟩)
      have qc := (HC.out Wc HFC.out).1
      have qd := (HC.out Wc HFC.out).2
      have cvc' : (convert 35 35 (.slice (some ⟨wr.heap.size, 0, none⟩) 1 1)).run Try.prog (wr.drew.alloc (.cells #[.int .u8 120] 5)) = .ok (.slice (some ⟨wr.heap.size, 0, none⟩) 1 1) Wc := cvc
      have cvd' : (convert 35 35 (.slice (some ⟨wr.heap.size, 0, none⟩) 1 1)).run Try.prog (wr.alloc (.cells #[.int .u8 120] 5)).drew = .ok (.slice (some ⟨wr.heap.size, 0, none⟩) 1 1) Wc := cvc
      clear cvc fc cc nil0 hcz
      go_upto_region 7 with fail
      go_cut [6] (fun s6 wx => EndsPost wr n0 s6 wx)
      case first =>
        go_region_held_law (fun w' => w'.cell? ⟨b, o + k, none⟩ = some (.int .i64 z))
          (first
            | (with_reducible exact q3)
            | (with_reducible exact q4)
            | (with_reducible exact al1 q4 _)
            | (with_reducible exact q1)
            | (with_reducible exact al1 q1 _)
            | (with_reducible exact al1 (al1 q1 _) _)
            | (with_reducible exact qc)
            | (with_reducible exact al1 qc _)
            | (with_reducible exact hcell)
            | (with_reducible exact al1 hcell _)
            | (with_reducible exact al1 (dr1 hcell) _)
            | (with_reducible exact al1 (al1 (dr1 hcell) _) _)
            | go_keep)
          (first
          | ((refine step_append_sl _ (by rfl) (.const (.slice none 0 0)) (.tmp 39) 22 (by rfl) 37 i1 (.agg #[.int .i64 0, .int .i64 0, .slice none 0 0, .bool false]) 4 48 Try.underlying22 hi1 hzA hzB hzC (by rfl) (by decide) (.slice none 0 0) 0 [] (by rfl) (World.ownsRow_nil _ 0 37 4) (fun _ => True) (.slice A0 n0 c0) n0 (acs F0 n0) (by rfl) (HSL.out _ (Fr.refl [] wr).drew) HOne.out HLm1.out HLb1.out n0 HN1.out ?_); intro KA8 KC8 W8 h10 h11 h12; have F8 : Fr [] wr W8 := Fr.trans (O' := ob (.slice none 0 0)) (Fr.refl [] wr).drew h11 (by simp [ob, Value.ownBlock]); have q1 := (HC.out W8 F8).1; have q2 := (HC.out W8 F8).2; obtain ⟨Wi, cvi, fi, ci⟩ := conv_mark (Blk.new W8 5 #[.int .u8 120]); have Fi : Fr [] W8 Wi := ((Fr.refl [] W8).alloc _).trans fi (by simp); have EO : Hid (EOwn wr n0 F0 KA8 KC8 W8.heap.size Wi) := Lib.hid (HEa.out _ _ _ _ h10 h11 h12 Fi ci); have q4 := (HC.out Wi (F8.trans Fi (by simp))).1; have q5 := (HC.out Wi (F8.trans Fi (by simp))).2; clear fi ci Fi; have H10 := Lib.hid h10; have H11 := Lib.hid h11; have H12 := Lib.hid h12; have HF8 := Lib.hid F8; clear h10 h11 h12 F8)
          | ((refine step_append_sl _ (by rfl) (.const (.slice none 0 0)) (.tmp 39) 22 (by rfl) 37 i1 (.agg #[.int .i64 0, .int .i64 0, .slice none 0 0, .bool false]) 4 48 Try.underlying22 hi1 hzA hzB hzC (by rfl) (by decide) (.slice none 0 0) 0 [] (by rfl) (World.ownsRow_nil _ 0 37 4) (fun _ => True) (.slice A0 n0 c0) n0 (acs F0 n0) (by rfl) (HSL.out _ ((Fr.refl [] wr).drew.alloc _)) HOne.out HLm1.out HLb1.out n0 HN1.out ?_); intro KA8 KC8 W8 h10 h11 h12; have F8 : Fr [] wr W8 := Fr.trans (O' := ob (.slice none 0 0)) ((Fr.refl [] wr).drew.alloc _) h11 (by simp [ob, Value.ownBlock]); have q1 := (HC.out W8 F8).1; have q2 := (HC.out W8 F8).2; obtain ⟨Wi, cvi, fi, ci⟩ := conv_mark (show Blk W8 wr.heap.size 5 #[.int .u8 120] from Blk.fr (w := wr.drew.alloc (.cells #[.int .u8 120] 5)) (Blk.new wr.drew 5 #[.int .u8 120]) h11 (by simp [ob, Value.ownBlock])); have EO : Hid (EOwn wr n0 F0 KA8 KC8 wr.heap.size Wi) := Lib.hid (HEb.out _ _ _ _ h10 h11 h12 fi ci); have Fi : Fr [] wr Wi := F8.trans fi (by simp); have q4 := (HC.out Wi Fi).1; have q5 := (HC.out Wi Fi).2; clear fi ci Fi; have H10 := Lib.hid h10; have H11 := Lib.hid h11; have H12 := Lib.hid h12; have HF8 := Lib.hid F8; clear h10 h11 h12 F8)
          | ((refine step_append_sl _ (by rfl) (.const (.slice none 0 0)) (.tmp 39) 22 (by rfl) 37 i1 (.agg #[.int .i64 0, .int .i64 0, .slice none 0 0, .bool false]) 4 48 Try.underlying22 hi1 hzA hzB hzC (by rfl) (by decide) (.slice none 0 0) 0 [] (by rfl) (World.ownsRow_nil _ 0 37 4) (fun _ => True) (.slice A0 n0 c0) n0 (acs F0 n0) (by rfl) (HSL.out _ HFC.out) HOne.out HLm1.out HLb1.out n0 HN1.out ?_); intro KA8 KC8 W8 h10 h11 h12; have F8 : Fr [] wr W8 := Fr.trans (O' := ob (.slice none 0 0)) HFC.out h11 (by simp [ob, Value.ownBlock]); have q1 := (HC.out W8 F8).1; have q2 := (HC.out W8 F8).2; have EO : Hid (EOwn wr n0 F0 KA8 KC8 wr.heap.size W8) := Lib.hid (HEc.out _ _ _ h10 h11 h12); have H10 := Lib.hid h10; have H11 := Lib.hid h11; have H12 := Lib.hid h12; have HF8 := Lib.hid F8; clear h10 h11 h12 F8)
          | ((refine step_append_sl _ (by rfl) (.const (.slice none 0 0)) (.tmp 39) 22 (by rfl) 37 i1 (.agg #[.int .i64 0, .int .i64 0, .slice none 0 0, .bool false]) 4 48 Try.underlying22 hi1 hzA hzB hzC (by rfl) (by decide) (.slice none 0 0) 0 [] (by rfl) (World.ownsRow_nil _ 0 37 4) (fun _ => True) (.slice A0 n0 c0) n0 (acs F0 n0) (by rfl) (HSL.out _ (HFC.out.alloc _)) HOne.out HLm1.out HLb1.out n0 HN1.out ?_); intro KA8 KC8 W8 h10 h11 h12; have F8 : Fr [] wr W8 := Fr.trans (O' := ob (.slice none 0 0)) (HFC.out.alloc _) h11 (by simp [ob, Value.ownBlock]); have q1 := (HC.out W8 F8).1; have q2 := (HC.out W8 F8).2; have EO : Hid (EOwn wr n0 F0 KA8 KC8 wr.heap.size W8) := Lib.hid (HEd.out _ _ _ _ h10 h11 h12); have H10 := Lib.hid h10; have H11 := Lib.hid h11; have H12 := Lib.hid h12; have HF8 := Lib.hid F8; clear h10 h11 h12 F8)
          | ((refine step_append_sl _ (by rfl) (.tmp 40) (.tmp 59) 22 (by rfl) 37 i1 (.agg #[.int .i64 0, .int .i64 0, .slice none 0 0, .bool false]) 4 48 Try.underlying22 hi1 hzA hzB hzC (by rfl) (by decide) (.slice KA8 n0 KC8) n0 ([] ++ acs F0 n0) (by rfl) (EO.out.al _).own (fun _ => True) _ 3 (endL z W8.heap.size) (by rfl) (sl_new _ 37 (endL z W8.heap.size) rfl) (HOne2.out _) HLm2.out HLb2.out (n0 + 3) HN2.out ?_); intro KA9 KC9 W9 h13 h14 h15; have E9 := Lib.hid ((EO.out.al _).end_ HAr.out h13 h14); have q3 := (HC.out W9 E9.out.2).1; clear h13 h14 h15)
          | ((refine step_append_sl _ (by rfl) (.tmp 40) (.tmp 59) 22 (by rfl) 37 i1 (.agg #[.int .i64 0, .int .i64 0, .slice none 0 0, .bool false]) 4 48 Try.underlying22 hi1 hzA hzB hzC (by rfl) (by decide) (.slice KA8 n0 KC8) n0 ([] ++ acs F0 n0) (by rfl) (EO.out.al _).own (fun _ => True) _ 3 (endL z wr.heap.size) (by rfl) (sl_new _ 37 (endL z wr.heap.size) rfl) (HOne2.out _) HLm2.out HLb2.out (n0 + 3) HN2.out ?_); intro KA9 KC9 W9 h13 h14 h15; have E9 := Lib.hid ((EO.out.al _).end_ HAr.out h13 h14); have q3 := (HC.out W9 E9.out.2).1; clear h13 h14 h15)
          | ((refine step_append_sl _ (by rfl) (.tmp 40) (.tmp 59) 22 (by rfl) 37 i1 (.agg #[.int .i64 0, .int .i64 0, .slice none 0 0, .bool false]) 4 48 Try.underlying22 hi1 hzA hzB hzC (by rfl) (by decide) (.slice KA8 n0 KC8) n0 ([] ++ acs F0 n0) (by rfl) EO.out.own (fun _ => True) _ 3 (endL z wr.heap.size) (by rfl) ((sl_new Wc 37 (endL z wr.heap.size) rfl).fr H11.out (by simp [ob, Value.ownBlock])) (HOne2.out _) HLm2.out HLb2.out (n0 + 3) HN2.out ?_); intro KA9 KC9 W9 h13 h14 h15; have E9 := Lib.hid (EO.out.end_ HAr.out h13 h14); have q3 := (HC.out W9 E9.out.2).1; clear h13 h14 h15))
        all_goals
          go_wp2_with fail
          go_meet
          exact E9.out.1
      case rest =>
        obtain ⟨A, c, f, rfl, ha, fx⟩ := hcut
        go_wp2_with fail
        refine (play_any 8 A (n0 + 3) c f _ ha HLm2.out).mono ?_
        rintro e wp ⟨rfl, fp⟩
        go_wp2_with fail
        go_roundw
        case rel => exact ⟨k + 1, by omega, by go_num, (FK.out.trans fx (by simp)).trans fp (by simp)⟩
        case measure => simp [intOf]; omega
    · obtain rfl : n1 = k := by omega
      go_wp2_with fail
      refine (known_any _).mono ?_
      rintro e wk ⟨rfl, fk⟩
      go_wp2_with fail
      go_ret
      exact ⟨rfl, FK.out.trans fk (by simp)⟩
end Go.Proofs.Ytdlmhadcaagokaa
