import Derived.Test.YtdlmhadcaagokaaE
import Derived.RangeFuncNested
import Derived.RangeFuncBound
import Derived.RangeFuncCalls
import Derived.RangeFuncLeaves
import Derived.Shelf.Abstract
import Derived.Shelf.RegionOpen
import Derived.OwnWalkIn
import Derived.TacticsInMore
import Derived.LoopNIn
import Derived.LoopIn
namespace Go.Proofs.Ytdlmhadcaagokaa
open Go.RowKit Go.Shelf
attribute [local go_sem] Oper.semAt_some

def klen (g : Nat) (w : World) : Nat := match w.cell? ⟨g, 2, none⟩ with | some (.slice _ n _) => n | _ => 0

/-- What an iterator reads of the heap. -/
structure Seen (S : Nat → Prop) (g hb : Nat) (m n : Int) (kv ev : Value) (L : List (Pc × Value)) (W : World) : Prop where
  blk : Blk W g 58 (hpa m n kv ev)
  kp : Kp 67 S W kv L
  box : W.cell? ⟨hb, 0, none⟩ = some (ptr g)
  pub : ∀ b, S b → b < W.heap.size
  offg : ¬ S g
  pc : ∀ x ∈ L, 0 ≤ x.1.at_ ∧ x.1.at_ ≤ 4611686018427387904 ∧ 1 ≤ x.1.d.length ∧ x.1.d.length ≤ 64
  n0 : 0 ≤ n
  n1 : n ≤ 4611686018427387968
  len : L.length ≤ 64

theorem map_erase (L : List (Pc × Value)) (i : Nat) : (L.eraseIdx i).map (·.1) = (L.map (·.1)).eraseIdx i := by
  rw [List.eraseIdx_eq_take_drop_succ, List.eraseIdx_eq_take_drop_succ, List.map_append, List.map_take, List.map_drop]

theorem drain_stop (k : Nat) (n : Int) (l : List Pc) (h : readyV n l < 0) : drainV k n l = (n, l, []) := by
  cases k with
  | zero => rfl
  | succ k => unfold drainV; rw [if_pos h]
theorem drain_go (k : Nat) (n : Int) (l : List Pc) (i : Nat) (p : Pc) (h : readyV n l = i) (hp : l.getD i default = p) :
    drainV (k + 1) n l = ((drainV k (takeV n p).2 (l.eraseIdx i)).1, (drainV k (takeV n p).2 (l.eraseIdx i)).2.1, (takeV n p).1 ++ (drainV k (takeV n p).2 (l.eraseIdx i)).2.2) := by
  rw [drainV, if_neg (by omega), h]
  simp only [Int.toNat_natCast, hp]
theorem best_is (is : Pc → Bool) (lt : Pc → Pc → Bool) (l : List Pc) : ∀ (k i : Nat), bestV is lt l k = i → is (l.getD i default) = true
  | 0, i, h => by simp only [bestV] at h; omega
  | k + 1, i, h => by
    rw [best_succ] at h
    split at h
    · rename_i hc
      have : k = i := by omega
      subst this
      simp only [Bool.and_eq_true] at hc
      exact hc.1
    · exact best_is is lt l k i h
theorem ready_is (n : Int) (l : List Pc) (i : Nat) (h : readyV n l = i) : (l.getD i default).at_ ≤ n := by
  have := best_is _ _ _ _ _ h
  simpa [early] using this

theorem klen_of {S : Nat → Prop} {g hb : Nat} {m n : Int} {kv ev : Value} {L : List (Pc × Value)} {W : World} (h : Seen S g hb m n kv ev L W) : klen g W = L.length := by
  have h1 : W.cell? ⟨g, 2, none⟩ = some kv := by simpa using h.blk.cell 2
  obtain ⟨A, c, rfl, _⟩ := h.kp.form
  unfold klen
  rw [h1]
theorem off_fresh {S : Nat → Prop} {w W1 : World} {b2 : Nat} (hp : ∀ b, S b → b < w.heap.size) (hz : w.heap.size ≤ W1.heap.size) (h2 : W1.drew.heap.size ≤ b2) : ¬ S b2 := fun hs => by
  have h1 := hp _ hs
  have h3 : W1.heap.size ≤ b2 := h2
  omega
theorem step3 {g hb b2 : Nat} {m n : Int} {kv ev : Value} {W1 w2 w3 : World} (BG : Blk W1 g 58 (hpa m n kv ev)) (qb : W1.cell? ⟨hb, 0, none⟩ = some (ptr g)) (f2 : Fr [] W1.drew w2) (f3 : Fr [b2] w2 w3) (h2 : W1.drew.heap.size ≤ b2) :
    w3.cell? ⟨g, 2, none⟩ = some kv ∧ w3.frozen? ⟨g, 2, none⟩ = false ∧ w3.cell? ⟨hb, 0, none⟩ = some (ptr g) ∧ Fr [] W1 w3 ∧ g < w3.heap.size := by
  have h2' : W1.heap.size ≤ b2 := h2
  have f13 : Fr [] W1 w3 := ((Fr.refl [] W1).drew.trans f2 (by simp)).trans f3 (by intro x hx; simp at hx; subst hx; exact .inr h2')
  have B3 := BG.fr f13 (by simp)
  exact ⟨by simpa using B3.cell 2, B3.frozen 2, fr_cell f13 qb, f13, B3.lt⟩

set_option maxHeartbeats 2000000 in
theorem ready1_any (S : Nat → Prop) (l g hb : Nat) (m : Int) (ev : Value) (J : Int → Value → List (Pc × Value) → List Int → World → Prop)
    (hR : ∀ n kv L out W, J n kv L out W → Seen S g hb m n kv ev L W)
    (hJ : ∀ n kv L out W W3 kv3 i, J n kv L out W → Fr [] W W3 → Kp 67 S W3 kv3 (L.eraseIdx i) → (∀ b, kv3.ownBlock = some b → W.heap.size ≤ b) → J n kv3 (L.eraseIdx i) out (W3.setCell ⟨g, 2, none⟩ kv3))
    (hJ2 : ∀ n kv L out W W', J n kv L out W → Fr [] W W' → J n kv L out W')
    (hY : ∀ n kv L out W (p : Pc) A c kv1 L1 W1, J n kv1 L1 out W1 → L1.length = L.length + 1 → J n kv L out W → Byt S W (.slice A p.d.length c) p.d → 0 ≤ p.at_ → p.at_ ≤ n → p.at_ ≤ 4611686018427387904 → p.d.length ≤ 64 → YieldAt Fence.wide 3 Try.prog l #[agp p.at_ (.slice A p.d.length c)] W fun e W' =>
      e = .returned (.bool true) ∧ J (takeV n p).2 kv L (out ++ (takeV n p).1) W')
    (n0 : Int) (kv0 : Value) (L0 : List (Pc × Value)) (out0 : List Int) (W0 : World) (h0 : J n0 kv0 L0 out0 W0) :
    Calls Try.prog 42 #[.func (.yield l) #[] #[], .pointer (some ⟨hb, 0, none⟩)] W0 fun e W' => (∃ v, e = .returned v) ∧
      ∃ kv' L', J (drainV L0.length n0 (L0.map (·.1))).1 kv' L' (out0 ++ (drainV L0.length n0 (L0.map (·.1))).2.2) W' ∧ L'.map (·.1) = (drainV L0.length n0 (L0.map (·.1))).2.1 := by
  generalize hD : drainV L0.length n0 (L0.map (·.1)) = D
  have HD := Lib.hid hD
  clear hD
  go_enter Try.func42, Try.ntmps42
  go_wp2_with fail
  go_loopw [3] (fun _ wr => ∃ n kv L out, J n kv L out wr ∧ (drainV L.length n (L.map (·.1))).1 = D.1 ∧ (drainV L.length n (L.map (·.1))).2.1 = D.2.1 ∧ out ++ (drainV L.length n (L.map (·.1))).2.2 = out0 ++ D.2.2) (fun _ wr => klen g wr)
  case atStart => exact ⟨n0, kv0, L0, out0, h0, by rw [HD.out], by rw [HD.out], by rw [HD.out]⟩
  case round =>
    obtain ⟨n, kv, L, out, hj, hd⟩ := hrel
    have HDD := Lib.hid hd
    have Hj := Lib.hid hj
    have hs := hR _ _ _ _ _ hj
    have Hs := Lib.hid hs
    have c1 : wr.cell? ⟨g, 1, none⟩ = some (.int .i64 n) := by simpa using hs.blk.cell 1
    have c2 : wr.cell? ⟨g, 2, none⟩ = some kv := by simpa using hs.blk.cell 2
    have cb := hs.box
    have hf := first_ready S wr g hb n cb c1 kv L hs.kp (by have := hs.len; omega)
    have Hf := Lib.hid hf
    have hbd := ready_bd n (L.map (·.1))
    have hre : bestV (early n) ahead (L.map (·.1)) L.length = readyV n (L.map (·.1)) := by unfold readyV; rw [List.length_map]
    rw [List.length_map] at hbd
    rw [hre] at Hf
    have HR := Lib.hid hR
    have HJ := Lib.hid hJ
    have HJ2 := Lib.hid hJ2
    have HY := Lib.hid hY
    clear hre hd hj hs hf hR hJ hJ2 hY
    generalize hr : readyV n (L.map (·.1)) = r at *
    have Hr := Lib.hid hr
    clear hr
    obtain ⟨r0, r1⟩ := hbd
    by_cases hr0 : r < 0
    · go_wp2_with (go_at_call 31; refine Hf.out.mono ?_; rintro e w1 ⟨rfl, f1⟩)
      refine bodyPost_ret (results_none rfl _ _ _) rfl ⟨⟨_, rfl⟩, ?_⟩
      obtain ⟨hd1, hd2, hd3⟩ := HDD.out
      have hs := drain_stop L.length n (L.map (·.1)) (by rw [Hr.out]; exact hr0)
      rw [hs] at hd1 hd2 hd3
      refine ⟨kv, L, ?_, hd2⟩
      rw [← hd1, ← hd3, List.append_nil]
      exact HJ2.out _ _ _ _ _ _ Hj.out f1
    · obtain ⟨i, rfl⟩ : ∃ i : Nat, r = i := ⟨r.toNat, by omega⟩
      have hiL : i < L.length := by omega
      obtain ⟨m0, hm0⟩ : ∃ m0, L.length = i + 1 + m0 := ⟨L.length - i - 1, by omega⟩
      obtain ⟨kb, kc, x, rfl, hx, c3, c4, hbyt⟩ := Hs.out.kp.at_ hiL
      obtain ⟨A, dc, hxv, _, _⟩ := hbyt.form
      rw [hxv] at c4
      have hpc := Hs.out.pc x (List.mem_of_getElem? hx)
      have Hx := Lib.hid hx
      have Hxv := Lib.hid hxv
      have Hbyt := Lib.hid hbyt
      have Hm0 := Lib.hid hm0
      have hcl : ∀ W, Fr [] wr W → Calls Try.prog 36 #[.slice (some ⟨kb, 0, none⟩) L.length kc] W fun e w' => ∃ b2 c2, e = .returned (.slice (some ⟨b2, 0, none⟩) (i + 1 + m0) c2) ∧ Kp 67 S w' (.slice (some ⟨b2, 0, none⟩) L.length c2) L ∧ Fr [] W w' ∧ W.heap.size ≤ b2 := fun W f =>
        (cloneP_any W (Hs.out.kp.fr f (by simp) (by simp)) (by have := Hs.out.len; omega)).mono fun e w' ⟨A2, c2, he, hk, hf, hb⟩ => by
          obtain ⟨b2, c2', x2, hv, _⟩ := hk.at_ hiL
          injection hv with hv1 _ _
          subst hv1
          rw [Hm0.out] at he
          exact ⟨b2, c2, he, hk, hf, hb b2 rfl⟩
      have Hcl := Lib.hid hcl
      have hdl : ∀ W b2 c2, Kp 67 S W (.slice (some ⟨b2, 0, none⟩) L.length c2) L → ¬ S b2 → Calls Try.prog 45 #[.slice (some ⟨b2, 0, none⟩) (i + 1 + m0) c2, .int .i64 i, .int .i64 (i + 1)] W fun e w' => e = .returned (.slice (some ⟨b2, 0, none⟩) (i + m0) c2) ∧
          Kp 67 S w' (.slice (some ⟨b2, 0, none⟩) (i + m0) c2) (L.eraseIdx i) ∧ Fr [b2] W w' := fun W b2 c2 hk hn => del_any S W b2 c2 i m0 L Hm0.out hk hn (by have := Hs.out.len; omega)
      have Hdl := Lib.hid hdl
      have Hpc := Lib.hid hpc
      have hg2 := Hs.out.blk.lt
      have hhb := World.block_lt_of_cell? wr _ cb
      have hLs : L.length ≤ 64 := Hs.out.len
      dsimp only at hhb
      clear hcl hdl hpc hm0 hx hxv hbyt r0 hr0
      go_wp2_with (go_at_call 31; refine Hf.out.mono ?_; rintro e w1 ⟨rfl, f1⟩; have d2 := fr_cell f1 c2; have db := fr_cell f1 cb; have d3 := fr_cell f1 c3; have d4 := fr_cell f1 c4)
      have hg3 : g < w1.heap.size := by have := f1.size; omega
      have hhb3 : hb < w1.heap.size := by have := f1.size; omega
      have F1 := Lib.hid f1
      have fA : Fr [] wr (w1.alloc (bxp x.1.at_ (.slice A x.1.d.length dc))) := f1.alloc _
      have bA := Blk.new w1 67 #[.int .i64 x.1.at_, .slice A x.1.d.length dc]
      have q2 := cell_al d2 (bxp x.1.at_ (.slice A x.1.d.length dc))
      have qb := cell_al db (bxp x.1.at_ (.slice A x.1.d.length dc))
      have hbb : w1.heap.size ≠ g := by omega
      have bg := Hs.out.blk.fr fA (by simp)
      clear f1 d2 db d3 d4 c1 c2 c3 c4 cb
      generalize w1.alloc (bxp x.1.at_ (.slice A x.1.d.length dc)) = W1 at *
      have FA := Lib.hid fA
      have BA := Lib.hid bA
      have BG := Lib.hid bg
      clear fA bA bg
      have hwr : IntKind.i64.wrap ((i : Int) + 1) = (i : Int) + 1 := IntWalk.i64_in _ (by omega)
      have Hpub := Lib.hid Hs.out.pub
      have hz1 : wr.heap.size ≤ W1.heap.size := FA.out.size
      go_region_with (first
        | (go_at_call 36; (with_reducible refine (Hcl.out _ (FA.out.drew)).mono ?_); rintro e w2 ⟨b2, c2, rfl, k2, f2, h2⟩; have q2' : w2.cell? ⟨g, 2, none⟩ = _ := fr_cell (w := W1.drew) f2 q2; have qb' : w2.cell? ⟨hb, 0, none⟩ = _ := fr_cell (w := W1.drew) f2 qb; have hnS := off_fresh Hpub.out hz1 h2; have K2 := Lib.hid k2; have F2 := Lib.hid f2; clear k2 f2)
        | (go_at_call 45; (with_reducible refine (Hdl.out _ b2 c2 K2.out hnS).mono ?_); rintro e w3 ⟨rfl, k3, f3⟩; obtain ⟨q3, z3, qb3, f13, hg4⟩ := step3 BG.out qb F2.out f3 h2; have K3 := Lib.hid k3; have F3 := Lib.hid f13; clear k3 f3 f13))
      all_goals
        have hj4 := HJ.out n _ L out wr w3 (.slice (some ⟨b2, 0, none⟩) (i + m0) c2) i Hj.out (FA.out.trans F3.out (by simp)) K3.out (fun b hb => by
          have h5 : b2 = b := by simpa [Value.ownBlock] using hb
          have h6 : W1.heap.size ≤ b2 := h2
          omega)
        have ba3 := BA.out.fr F3.out (by simp)
        have ba4 := ba3.far (p := ⟨g, 2, none⟩) hbb (.slice (some ⟨b2, 0, none⟩) (i + m0) c2)
        have hb4 := ((Hbyt.out.fr (FA.out.trans F3.out (by simp)) (by simp)).fr ((Fr.refl [g] w3).setCell (p := ⟨g, 2, none⟩) (.inl (by simp)) (.slice (some ⟨b2, 0, none⟩) (i + m0) c2)) (by simpa using Hs.out.offg))
        rw [Hxv.out] at hb4
        generalize w3.setCell ⟨g, 2, none⟩ (.slice (some ⟨b2, 0, none⟩) (i + m0) c2) = W4 at *
        clear F3 z3 q3 qb3 K3 hg4 q2' qb' K2 F2 hnS h2 ba3
        have p0 : W4.cell? ⟨w1.heap.size, 0, none⟩ = some (.int .i64 x.1.at_) := ba4.cell 0
        have p1 : W4.cell? ⟨w1.heap.size, 1, none⟩ = some (.slice A x.1.d.length dc) := ba4.cell 1
        have hg5 : (L.map (·.1)).getD i default = x.1 := map_get L i x Hx.out
        have hle : x.1.at_ ≤ n := by
          have := ready_is n (L.map (·.1)) i Hr.out
          rwa [hg5] at this
        obtain ⟨fn, tmps, assign, body, hy, hRd⟩ := HY.out n _ _ out W4 x.1 A dc _ L wr Hj.out (by rw [List.length_eraseIdx]; split <;> omega) hj4 hb4 Hpc.out.1 hle Hpc.out.2.1 Hpc.out.2.2.2
        have Hg5 := Lib.hid hg5
        have HRd := Lib.hid hRd
        clear hg5 hle hj4 hb4 hRd
        go_upto_region 4 with fail
        refine (wpIn_wide (n := 4)).1 ?_
        gi_wp2
        refine HRd.out.mono ?_
        rintro e W5 ⟨rfl, hj5⟩
        have Hj5 := Lib.hid hj5
        clear hj5
        gi_wp2
        go_wp2_with fail
        go_roundw
        case rel =>
          obtain ⟨hd1, hd2, hd3⟩ := HDD.out
          obtain ⟨k, hk⟩ : ∃ k, L.length = k + 1 := ⟨L.length - 1, by omega⟩
          have hgo := drain_go k n (L.map (·.1)) i x.1 Hr.out Hg5.out
          rw [hk, hgo] at hd1 hd2 hd3
          have hle : (L.eraseIdx i).length = k := by rw [List.length_eraseIdx]; split <;> omega
          refine ⟨_, _, _, _, Hj5.out, ?_⟩
          rw [hle, map_erase]
          exact ⟨hd1, hd2, by rw [List.append_assoc]; exact hd3⟩
        case measure =>
          rw [klen_of (HR.out _ _ _ _ _ Hj5.out), klen_of Hs.out, List.length_eraseIdx]
          split <;> omega
end Go.Proofs.Ytdlmhadcaagokaa
