import Derived.Test.YtdlmhadcaagokaaM
import Derived.Test.YtdlmhadcaagokaaKit4
import Derived.Deep.DeepCutAuto
namespace Go.Proofs.Ytdlmhadcaagokaa
open Go.RowKit Go.Deep

def finI (o : Option Int) : Int := match o with | none => -1 | some a => a
abbrev agR (m n : Int) (kv : Value) (f : Int) : Value := .agg #[.int .i64 m, .int .i64 n, kv, .int .i64 f]
abbrev arR (m n : Int) (kv : Value) (f : Int) : Array Value := #[.int .i64 m, .int .i64 n, kv, .int .i64 f]
theorem rnew (m : Int) (w : World) : Calls Try.prog 11 #[.int .i64 m] w fun e w' => e = .returned (agR m 0 (.slice none 0 0) (-1)) ∧ Fr [] w w' := by
  go_enter Try.func11, Try.ntmps11
  go_wp2
  refine bodyPost_ret (v := agR m 0 (.slice none 0 0) (-1)) (by simp [results, Try.results11, go_sem]) rfl ?_
  exact ⟨rfl, (Fr.refl _ _).alloc _⟩
theorem cells4 {w : World} {b : Nat} {t : TypeId} {v0 v1 v2 v3 : Value} (h : Blk w b t #[v0, v1, v2, v3]) : w.cell? ⟨b, 0, none⟩ = some v0 ∧ w.cell? ⟨b, 1, none⟩ = some v1 ∧ w.cell? ⟨b, 2, none⟩ = some v2 ∧ w.cell? ⟨b, 3, none⟩ = some v3 :=
  ⟨by simpa using h.cell 0, by simpa using h.cell 1, by simpa using h.cell 2, by simpa using h.cell 3⟩
/-- How far is it told behind k bytes? -/
def tnx (next : Int) (at_ : Int) (k : Nat) : Int := if (k : Int) ≤ next - at_ then next else at_ + k
def ToldRel (w : World) (m n f : Int) (kv : Value) (p : Pc) (dv : Value) (s6 s7 : Value) (wr : World) : Prop :=
  ∃ (k : Nat) (A : Option Addr) (c : Nat), k ≤ p.d.length ∧ s7 = .int .i64 k ∧ s6 = .slice A ((p.d.take k).drop (n - p.at_).toNat).length c ∧
    wr.ownsRow 0 5 1 (.slice A ((p.d.take k).drop (n - p.at_).toNat).length c) ((p.d.take k).drop (n - p.at_).toNat).length (byts ((p.d.take k).drop (n - p.at_).toNat)) ∧
    (∀ b, (Value.slice A ((p.d.take k).drop (n - p.at_).toNat).length c).ownBlock = some b → w.heap.size ≤ b) ∧ Fr [] w wr ∧
    Blk wr w.heap.size 31 (arR m (tnx n p.at_ k) kv f) ∧ Blk wr (w.heap.size + 1) 65 #[.int .i64 p.at_, dv] ∧ Blk wr (w.heap.size + 2) 31 (arR 0 0 (.slice none 0 0) 0)
def ToldPost (w : World) (m n f : Int) (kv : Value) (p : Pc) (e : Ending) (w' : World) : Prop :=
  ∃ A c, e = .returned (.tuple #[agR m (takeV n p).2 kv f, .slice A (takeV n p).1.length c]) ∧ w'.ownsRow 0 5 1 (.slice A (takeV n p).1.length c) (takeV n p).1.length (byts (takeV n p).1) ∧
    (∀ b, (Value.slice A (takeV n p).1.length c).ownBlock = some b → w.heap.size ≤ b) ∧ Fr [] w w'
theorem told_end (n : Int) (p : Pc) (h1 : p.at_ ≤ n) : takeV n p = ((p.d.take p.d.length).drop (n - p.at_).toNat, tnx n p.at_ p.d.length) := by
  unfold takeV tnx Pc.beh
  rw [List.take_length]
  by_cases h : p.at_ + (p.d.length : Int) ≤ n
  · rw [if_pos h, if_pos (by omega), List.drop_of_length_le (by omega)]
  · rw [if_neg h, if_neg (by omega)]
theorem told_stay (n : Int) (p : Pc) (k : Nat) (h1 : (k : Int) < n - p.at_) : (p.d.take (k + 1)).drop (n - p.at_).toNat = (p.d.take k).drop (n - p.at_).toNat ∧ tnx n p.at_ (k + 1) = tnx n p.at_ k := by
  constructor
  · rw [List.drop_of_length_le (by rw [List.length_take]; omega), List.drop_of_length_le (by rw [List.length_take]; omega)]
  · unfold tnx
    rw [if_pos (by omega), if_pos (by omega)]
theorem told_more (n : Int) (p : Pc) (k : Nat) (h0 : p.at_ ≤ n) (h1 : n - p.at_ ≤ (k : Int)) (hk : k < p.d.length) : (p.d.take (k + 1)).drop (n - p.at_).toNat = (p.d.take k).drop (n - p.at_).toNat ++ [p.d.getD k 0] ∧ tnx n p.at_ (k + 1) = p.at_ + k + 1 ∧ tnx n p.at_ k = p.at_ + k := by
  refine ⟨?_, ?_, ?_⟩
  · rw [List.take_add_one, List.getElem?_eq_getElem hk, List.drop_append_of_le_length (by rw [List.length_take]; omega)]
    simp [List.getD, List.getElem?_eq_getElem hk]
  · unfold tnx
    rw [if_neg (by omega)]
    omega
  · unfold tnx
    split <;> omega
set_option maxHeartbeats 2000000 in
theorem rtold (S : Nat → Prop) (w : World) (m n f : Int) (kv : Value) (p : Pc) (dv : Value) (hd : Byt S w dv p.d) (KA : Option Addr) (KL KC : Nat) (hkv : kv = .slice KA KL KC) (h0 : 0 ≤ p.at_) (h1 : p.at_ ≤ n) (h2 : n ≤ 4611686018427387968) (h3 : p.d.length ≤ 64) :
    Calls Try.prog 40 #[agR m n kv f, agp p.at_ dv] w (ToldPost w m n f kv p) := by
  obtain ⟨DA, DC, rfl, hdn, hdc⟩ := hd.form
  subst hkv
  have HD := Lib.hid hd
  obtain ⟨i0, hi0, hz0, hz1, hz2⟩ := info_parts info_u8
  have b0 := ((Blk.new w 31 (arR m n (.slice KA KL KC) f)).alloc (.cells #[.int .i64 p.at_, .slice DA p.d.length DC] 65)).alloc (.cells (arR 0 0 (.slice none 0 0) 0) 31)
  have b1 := (Blk.new (w.alloc (.cells (arR m n (.slice KA KL KC) f) 31)) 65 #[.int .i64 p.at_, .slice DA p.d.length DC]).alloc (.cells (arR 0 0 (.slice none 0 0) 0) 31)
  have b2 := Blk.new ((w.alloc (.cells (arR m n (.slice KA KL KC) f) 31)).alloc (.cells #[.int .i64 p.at_, .slice DA p.d.length DC] 65)) 31 (arR 0 0 (.slice none 0 0) 0)
  have B0 := Lib.hid b0
  have B1 := Lib.hid b1
  have B2 := Lib.hid b2
  clear hd b0 b1 b2
  go_enter Try.func40, Try.ntmps40
  go_wp2
  go_loopw [6, 7] (fun s6 s7 wr => ToldRel w m n f (.slice KA KL KC) p (.slice DA p.d.length DC) s6 s7 wr) (fun _ s7 _ => p.d.length - (intOf s7).toNat)
  case atStart =>
    refine ⟨0, none, 0, by omega, rfl, by simp, by simpa [byts] using World.ownsRow_nil _ 0 5 1, by simp [Value.ownBlock], (((Fr.refl _ _).alloc _).alloc _).alloc _, ?_, by simpa using B1.out, by simpa using B2.out⟩
    have : tnx n p.at_ 0 = n := by unfold tnx; rw [if_pos (by omega)]
    rw [this]
    exact B0.out
  case round =>
    obtain ⟨k, A, c, hk, rfl, rfl, own, hown, fk, b0, b1, b2⟩ := hrel
    have hol : ((p.d.take k).drop (n - p.at_).toNat).length ≤ 64 := by simp; omega
    by_cases hlt : k < p.d.length
    · have Hown := Lib.hid hown
      have Fk := Lib.hid fk
      have B1' := Lib.hid b1
      have B2' := Lib.hid b2
      by_cases hz : (k : Int) < n - p.at_
      · obtain ⟨e1, e2⟩ := told_stay n p k hz
        have hnx : tnx n p.at_ k = n := by unfold tnx; rw [if_pos (by omega)]
        have E1 := Lib.hid e1
        have E2 := Lib.hid e2
        rw [hnx] at b0
        have B0' := Lib.hid b0
        have Own := Lib.hid own
        have Hnx := Lib.hid hnx
        obtain ⟨c0, c1, c2, c3⟩ := cells4 b0
        have d0 : wr.cell? ⟨w.heap.size + 1, 0, none⟩ = some (.int .i64 p.at_) := b1.cell 0
        have d1 : wr.cell? ⟨w.heap.size + 1, 1, none⟩ = some (.slice DA p.d.length DC) := b1.cell 1
        have hne : (p.at_ + (k : Int) == n) = false := by simp; omega
        clear e1 e2 hnx own hown fk b0 b1 b2
        generalize hq : (p.d.take k).drop (n - p.at_).toNat = o at *
        have HQ := Lib.hid hq
        clear hq
        go_wp2
        go_roundw
        case rel =>
          refine ⟨k + 1, A, c, by omega, by go_num, ?_⟩
          rw [E1.out, E2.out, Hnx.out]
          exact ⟨rfl, Own.out, Hown.out, Fk.out, B0'.out, B1'.out, B2'.out⟩
        case measure => simp [intOf]; omega
      · obtain ⟨e1, e2, e3⟩ := told_more n p k h1 (by omega) hlt
        have E1 := Lib.hid e1
        have E2 := Lib.hid e2
        rw [e3] at b0
        have B0' := Lib.hid b0
        have Own := Lib.hid own
        obtain ⟨c0, c1, c2, c3⟩ := cells4 b0
        have d0 : wr.cell? ⟨w.heap.size + 1, 0, none⟩ = some (.int .i64 p.at_) := b1.cell 0
        have d1 : wr.cell? ⟨w.heap.size + 1, 1, none⟩ = some (.slice DA p.d.length DC) := b1.cell 1
        obtain ⟨db, dof, rfl, _, d2⟩ := (HD.out.fr fk (by simp)).at_ hlt
        have hl1 := b0.lt
        have hl2 := b1.lt
        have hl3 := World.block_lt_of_cell? wr _ d2
        dsimp only at hl3
        have f1 : Fr [] wr (wr.alloc (.cells #[.int .u8 (p.d.getD k 0)] 5)) := (Fr.refl _ _).alloc _
        have hsrc : Sl (fun _ => True) (wr.alloc (.cells #[.int .u8 (p.d.getD k 0)] 5)) 1 (.slice (some ⟨wr.heap.size, 0, none⟩) 1 1) 1 [.int .u8 (p.d.getD k 0)] := Sl.of_own (World.ownsRow_lit (base := 0) (e := 5) (size := 1) wr #[.int .u8 (p.d.getD k 0)] 1 (Nat.zero_le _) (by unfold maxLen; omega) rfl) (fun _ _ => trivial)
        clear e1 e2 e3 own hown b0 b1 b2
        generalize hq : (p.d.take k).drop (n - p.at_).toNat = o at *
        have HQ := Lib.hid hq
        obtain ⟨N, hN⟩ : ∃ N, o.length + 1 = N := ⟨_, rfl⟩
        have hlm : o.length + 1 ≤ maxLen := by unfold maxLen; omega
        have hlb : (o.length + 1) * 1 ≤ 140737488355328 := by omega
        have HN := Lib.hid hN
        have HLM := Lib.hid hlm
        have HLB := Lib.hid hlb
        have HS := Lib.hid hsrc
        have F1 := Lib.hid f1
        clear hq hN hlm hlb hsrc f1 fk hz
        have hwk : IntKind.i64.wrap (p.at_ + (k : Int)) = p.at_ + k := IntWalk.i64_in _ (by omega)
        generalize p.d.getD k 0 = by_ at *
        have afr : ∀ w', Fr (ob (.slice A o.length c)) (wr.alloc (.cells #[.int .u8 by_] 5)) w' → Fr [] w w' := fun w' f => (Fk.out.trans F1.out (by simp)).trans f (fun x hx => .inr (Hown.out x (mem_ob.1 hx)))
        have anob : ∀ {t : TypeId} {cs : Array Value} {b : Nat}, Blk wr b t cs → t ≠ 5 → b ∉ ob (.slice A o.length c) := fun hb hne hm => own_ne Own.out hb (Ne.symm hne) (mem_ob.1 hm)
        have abx : ∀ w', Fr (ob (.slice A o.length c)) (wr.alloc (.cells #[.int .u8 by_] 5)) w' → Blk w' w.heap.size 31 (arR m (p.at_ + k) (.slice KA KL KC) f) ∧ Blk w' (w.heap.size + 1) 65 #[.int .i64 p.at_, .slice (some ⟨db, dof, none⟩) p.d.length DC] ∧ Blk w' (w.heap.size + 2) 31 (arR 0 0 (.slice none 0 0) 0) := fun w' fw =>
          ⟨(B0'.out.fr F1.out (by simp)).fr fw (anob B0'.out (by decide)), (B1'.out.fr F1.out (by simp)).fr fw (anob B1'.out (by decide)), (B2'.out.fr F1.out (by simp)).fr fw (anob B2'.out (by decide))⟩
        have AFR := Lib.hid afr
        have ABX := Lib.hid abx
        clear afr anob abx
        go_wp2_with (at_builtin; refine wpList_append_sl _ rfl (.tmp 22) (.tmp 28) 35 rfl 5 i0 (.int .u8 0) 1 1 Try.underlying35 hi0 hz0 hz1 hz2 rfl (by decide) (.slice A o.length c) o.length (byts o) (by rfl) (own_fr Own.out F1.out (by simp)) (fun _ => True) (.slice (some ⟨wr.heap.size, 0, none⟩) 1 1) 1 [.int .u8 by_] (by rfl) HS.out (by simp [Value.oneCell']) HLM.out HLB.out N HN.out ?_; intro A' c' w' h4 h5 h6; obtain ⟨x0, x1, x2⟩ := ABX.out w' h5; obtain ⟨g0, g1, g2, g3⟩ := cells4 x0; have g4 := x0.frozen 1; have g5 := x0.lt; have H4 := Lib.hid h4; have H5 := Lib.hid h5; have H6 := Lib.hid h6; have X0 := Lib.hid x0; have X1 := Lib.hid x1; have X2 := Lib.hid x2; clear h4 h5 h6 x0 x1 x2)
        go_roundw
        case rel =>
          refine ⟨k + 1, A', c', by omega, by go_num, ?_⟩
          have hN2 : (o ++ [by_]).length = N := by rw [List.length_append]; exact HN.out
          have fs := (Fr.refl [w.heap.size] w').setCell (p := ⟨w.heap.size, 1, none⟩) (.inl (by simp)) (.int .i64 (p.at_ + k + 1))
          rw [E1.out, E2.out, hN2]
          refine ⟨rfl, ?_, fun b hb => ?_, (AFR.out w' H5.out).trans fs (by simp), ?_, X1.out.fr fs (by simp), X2.out.fr fs (by simp)⟩
          · rw [← byts_app]
            exact own_fr H4.out fs (fun b hb => by simp; rintro rfl; exact own_ne H4.out X0.out (by decide) hb)
          · have h8 := Fk.out.size
            rcases H6.out b hb with h7 | h7
            · exact Hown.out b h7
            · have := h7.1
              simp at this
              omega
          · simpa using X0.out.set_ 1 (.int .i64 (p.at_ + k + 1))
        case measure => simp [intOf]; omega
    · obtain rfl : p.d.length = k := by omega
      have e1 := told_end n p h1
      have E1 := Lib.hid e1
      have Own := Lib.hid own
      have Hown := Lib.hid hown
      have Fk := Lib.hid fk
      have hl1 := b0.lt
      have hl2 := b1.lt
      obtain ⟨c0, c1, c2, c3⟩ := cells4 b0
      have d0 : wr.cell? ⟨w.heap.size + 1, 0, none⟩ = some (.int .i64 p.at_) := b1.cell 0
      have d1 : wr.cell? ⟨w.heap.size + 1, 1, none⟩ = some (.slice DA p.d.length DC) := b1.cell 1
      have B2' := Lib.hid b2
      clear e1 own hown fk b0 b1 b2
      generalize (p.d.take p.d.length).drop (n - p.at_).toNat = o at *
      generalize tnx n p.at_ p.d.length = nx at *
      go_wp2_with ((with_reducible refine gate_store 31 (.tmp 4) ?_); refine wpList_store_blk rfl 31 (.tmp 4) (.tmp 34) rfl (w.heap.size + 2) 31 (arR 0 0 (.slice none 0 0) 0) (arR m nx (.slice KA KL KC) f) rfl rfl B2'.out rfl (by kernel_rfl) (by simp [Value.oneCell']) ?_; intro w2 B3 F3)
      obtain ⟨g0, g1, g2, g3⟩ := cells4 B3
      refine bodyPost_ret (v := .tuple #[agR m nx (.slice KA KL KC) f, .slice A o.length c]) (by simp [results, Try.results40, go_sem, g0, g1, g2, g3]) rfl ?_
      refine ⟨A, c, ?_, ?_, ?_, Fk.out.trans F3 (by simp)⟩
      · rw [E1.out]
      · rw [E1.out]
        exact own_fr Own.out F3 (fun b hb => by simp; rintro rfl; exact own_ne Own.out B2'.out (by decide) hb)
      · rw [E1.out]
        exact Hown.out
end Go.Proofs.Ytdlmhadcaagokaa
