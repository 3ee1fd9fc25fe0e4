import Derived.Test.YtmgdbbbdhkfdmaaZ15
import Derived.Test.YtmgdbbbdhkfdmaaZ13
import Derived.Test.YtmgdbbbdhkfdmaaZ12
import Derived.Deep.DeepCutAuto
import Derived.Deep.RegionHeldLaw
import Derived.Deep.RegionWith
set_option linter.unusedSimpArgs false
set_option linter.unusedVariables false
/-
  What Come does.
-/
namespace Go.Proofs.Ytmgdbbbdhkfdmaa
set_option maxRecDepth 100000
open Go.RowKit Go.Deep

def CPost (S : Nat → Prop) (w : World) (H : Hd) (r : St × List Prt × Int) (e : Ending) (w' : World) : Prop := ∃ v, e = .returned (.tuple #[v, .int .i64 r.2.2]) ∧ LPost S w H (r.1, r.2.1) (.returned v) w'
theorem listen_len (x : St) (p : Prt) : (listenV x p).2.length ≤ 1 := by unfold listenV; split <;> simp
theorem open_len (x : St) (p : Prt) : (openV x p).2.length ≤ 1 := by
  unfold openV
  (repeat' split) <;> (try simp) <;> (dsimp only; split <;> simp)
theorem comes_len (x : St) (p : Prt) : (comesV x p).2.length ≤ 1 := by
  unfold comesV
  split
  · exact listen_len x p
  split
  · unfold callsV; (repeat' split) <;> first | exact listen_len x p | simp
  split
  · unfold heardV; (repeat' split) <;> first | exact listen_len x p | exact open_len _ p | simp
  split
  · exact open_len x p
  · unfold endedV; split <;> simp
/-- What a call tells, and what is sent behind it. -/
theorem sends_post {S : Nat → Prop} {w w1 w2 : World} {H H1 : Hd} {r : St × List Prt} {S1 : Nat → Prop} {v1 : Value} {L1 : List (Prt × Value)} {e : Ending} {R : St × List Prt} (hL : L1.map (·.1) = r.2) (x1 : Ext w S S1) (lk : Hd.like w H H1) (n1 : ∀ b ∈ ob v1, w.heap.size ≤ b ∧ ¬ S1 b) (f1 : Fr H.own w w1)
    (h : SPost S1 w1 H1 v1 L1 R e w2) : LPost S w H (R.1, r.2 ++ R.2) e w2 := by
  obtain ⟨S2, v2, L2, he, hL2, x2, m2, p2, n2, f2⟩ := h
  have hz := f1.size
  refine ⟨S2, H1, v2, L2, he, by rw [hL2, hL], x1.trans hz x2, lk, m2, p2, fun b hb => ?_, f1.trans f2 (fun y hy => ?_)⟩
  · obtain ⟨q1, q2⟩ := n2 b hb
    refine ⟨?_, q2⟩
    rcases q1 with q | q
    · exact (n1 b q).1
    · omega
  · rcases List.mem_append.1 hy with h | h
    · exact .inr (n1 y h).1
    · exact lk.own y h
theorem comeV_no (x : St) (p : Prt) (h : p.flags < 0 ∨ 15 < p.flags ∨ 64 < p.d.length) : comeV x p = (x, [], 2) := by unfold comeV; rw [if_pos h]
theorem comeV_yes (x : St) (p : Prt) (h : ¬ (p.flags < 0 ∨ 15 < p.flags ∨ 64 < p.d.length)) : comeV x p = ((sendsV (comesV x p).1).1, (comesV x p).2 ++ (sendsV (comesV x p).1).2, 0) := by unfold comeV; rw [if_neg h]
/-- The handler by where the end is. -/
abbrev handler (a : Int) : Nat := if a = 1 then 21 else if a = 2 then 22 else if a = 3 then 23 else if a = 4 then 24 else 25
theorem handler_si {S : Nat → Prop} {w : World} {H : Hd} {x : St} (m : SI S w H x) (ok : Ok x) (p : Prt) (okp : OkP p) (A : Option Addr) (c : Nat) (T : Nat → Prop) (hd : Byt T w (.slice A p.d.length c) p.d) (hT : ∀ b, T b → b ∉ H.own ∧ b < w.heap.size) :
    Calls Try.prog (handler x.at_) #[ptr H.g, agP p (.slice A p.d.length c)] w (LPost S w H (comesV x p)) := by
  have h1 := ok.at0
  have h5 := ok.at5
  unfold handler comesV
  split
  · exact listen_si m ok.s.hi (by have := ok.s.hu; omega) p A c
  split
  · exact calls_si m ok.s p okp A c
  split
  · exact heard_si m ok.s p okp A c T hd hT
  split
  · exact open_si m ok.s p okp _ T hd hT
  · exact ended_si m ok.s p okp A c
end Go.Proofs.Ytmgdbbbdhkfdmaa

/-
  What Come does: the walk.
-/
namespace Go.Proofs.Ytmgdbbbdhkfdmaa
set_option maxRecDepth 100000
open Go.RowKit Go.Deep

theorem come_end {S S2 : Nat → Prop} {w wc w2 w3 : World} {H H2 : Hd} {y : St × List Prt} {v2 : Value} {L2 : List (Prt × Value)} {e : Ending} (fc : Fr [] w wc) (hL : L2.map (·.1) = y.2) (x2 : Ext wc.drew S S2) (lk : Hd.like wc.drew H H2) (n2 : ∀ b ∈ ob v2, wc.drew.heap.size ≤ b ∧ ¬ S2 b) (f2 : Fr H.own wc.drew w2)
    (h : SPost S2 w2 H2 v2 L2 (sendsV y.1) e w3) : LPost S w H ((sendsV y.1).1, y.2 ++ (sendsV y.1).2) e w3 := by
  have hz : w.heap.size ≤ wc.drew.heap.size := fc.size
  exact sends_post hL (ext_up x2 hz) ⟨lk.g, lk.gw, lk.gc, lk.gh, fun b hb => (lk.own b hb).imp id (fun h => by omega)⟩ (fun b hb => ⟨by have := (n2 b hb).1; omega, (n2 b hb).2⟩) ((fc.drew.mono (by simp)).trans f2 (fun y hy => .inl hy)) h
abbrev arF (g : Nat) : Array Value := #[.nilFunc, .func (.func 21) #[ptr g] #[], .func (.func 22) #[ptr g] #[], .func (.func 23) #[ptr g] #[], .func (.func 24) #[ptr g] #[], .func (.func 25) #[ptr g] #[]]
set_option maxHeartbeats 8000000 in
theorem come_si {S : Nat → Prop} {w : World} {H : Hd} {x : St} (m : SI S w H x) (ok : Ok x) (p : Prt) (w0 : 0 ≤ p.win) (w1 : p.win < 65536) (A : Option Addr) (c : Nat) (T : Nat → Prop) (hd : Byt T w (.slice A p.d.length c) p.d) (hT : ∀ b, T b → b ∉ H.own ∧ b < w.heap.size) :
    Calls Try.prog 6 #[ptr H.g, agP p (.slice A p.d.length c)] w (CPost S w H (comeV x p)) := by
  have vn := comeV_no x p
  have vy := comeV_yes x p
  have hcl := comes_len x p
  have hok2 : p.d.length ≤ 64 → Ok (comesV x p).1 := fun h => ok.comes p (by omega)
  have hha : ∀ (W : World) (f : Fr [] w W), 0 ≤ p.flags → p.flags ≤ 15 → p.d.length ≤ 64 → Calls Try.prog (handler x.at_) #[ptr H.g, agP p (.slice A p.d.length c)] W (LPost S W H (comesV x p)) := fun W f h1 h2 h3 =>
    handler_si (m.fr f) ok p ⟨h1, h2, by omega, w0, w1⟩ A c T (hd.fr f (by simp)) (fun b hb => ⟨(hT b hb).1, Nat.lt_of_lt_of_le (hT b hb).2 f.size⟩)
  generalize hcv : comeV x p = r at *
  generalize hcs : comesV x p = y at *
  obtain ⟨fl, sq, ak, wi, d⟩ := p
  dsimp only at *
  have hgl := m.blk.lt
  have f0 : Fr [] w (w.alloc (.cells (arP ⟨fl, sq, ak, wi, d⟩ (.slice A d.length c)) 27)) := (Fr.refl [] w).alloc _
  have b0 : Blk (w.alloc (.cells (arP ⟨fl, sq, ak, wi, d⟩ (.slice A d.length c)) 27)) w.heap.size 27 (arP ⟨fl, sq, ak, wi, d⟩ (.slice A d.length c)) := Blk.new w _ _
  have M := Lib.hid m
  have OK := Lib.hid ok
  have VN := Lib.hid vn
  have VY := Lib.hid vy
  have HA := Lib.hid hha
  have HCL := Lib.hid hcl
  have HOK2 := Lib.hid hok2
  clear m ok vn vy hha hd hT hcl hok2 hcv hcs
  have c16 := (scells (M.out.fr f0).blk).c16
  have c0 := (scells (M.out.fr f0).blk).c0
  go_enter Try.func6, Try.ntmps6
  go_wp2_with fail
  refine wp_scope_fwd 0 rfl ?_
  go_upto_region 1 with fail
  generalize w.alloc (.cells (arP ⟨fl, sq, ak, wi, d⟩ (.slice A d.length c)) 27) = wa at *
  obtain ⟨y0, y1, y2, y3, y4⟩ := cells5 b0
  go_wp2_with fail
  refine (snone_si H.g H.gw _ (alk c16 _)).mono ?_
  rintro e w' ⟨rfl, rfl⟩
  have fb : Fr [] w (wa.alloc (.cells #[.nilFunc, .nilFunc, .nilFunc, .nilFunc, .nilFunc, .nilFunc] 69)) := f0.alloc _
  have bb : Blk (wa.alloc (.cells #[.nilFunc, .nilFunc, .nilFunc, .nilFunc, .nilFunc, .nilFunc] 69)) wa.heap.size 69 #[.nilFunc, .nilFunc, .nilFunc, .nilFunc, .nilFunc, .nilFunc] := Blk.new wa _ _
  have b1 := b0.alloc (.cells #[.nilFunc, .nilFunc, .nilFunc, .nilFunc, .nilFunc, .nilFunc] 69)
  have hb6 : w.heap.size < wa.heap.size := b0.lt
  have c0 := alk c0 (.cells #[.nilFunc, .nilFunc, .nilFunc, .nilFunc, .nilFunc, .nilFunc] 69)
  generalize wa.alloc (.cells #[.nilFunc, .nilFunc, .nilFunc, .nilFunc, .nilFunc, .nilFunc] 69) = wb at *
  obtain ⟨y0, y1, y2, y3, y4⟩ := cells5 b1
  generalize hbk : wa.heap.size = bk at *
  have FB := Lib.hid fb
  have BB := Lib.hid bb
  have B1 := Lib.hid b1
  clear fb b1 f0 b0 c16 hbk
  by_cases h0 : fl < 0
  · have d0 : decide (fl < 0) = true := by simpa using h0
    go_wp2_with fail
    apply wp_goto
    refine fwd_goto _ _ ?_
    go_wp2
    rw [Exit.noGoto_ret]
    go_ret2
    rw [VN.out (.inl h0)]
    exact ⟨_, rfl, lpost_nil (M.out.fr FB.out) (FB.out.mono (by simp))⟩
  have d0 : decide (fl < 0) = false := by simpa using h0
  by_cases h15 : 15 < fl
  · have d1 : decide (15 < fl) = true := by simpa using h15
    have d1' : decide (fl > 15) = true := by simpa using h15
    go_wp2_with fail
    apply wp_goto
    refine fwd_goto _ _ ?_
    go_wp2
    rw [Exit.noGoto_ret]
    go_ret2
    rw [VN.out (.inr (.inl h15))]
    exact ⟨_, rfl, lpost_nil (M.out.fr FB.out) (FB.out.mono (by simp))⟩
  have d1 : decide (15 < fl) = false := by simpa using h15
  have d1' : decide (fl > 15) = false := by simpa using h15
  by_cases h64 : 64 < d.length
  · have d2 : decide (64 < (d.length : Int)) = true := by simp; omega
    have d2' : decide ((d.length : Int) > 64) = true := by simp; omega
    go_wp2_with fail
    apply wp_goto
    refine fwd_goto _ _ ?_
    go_wp2
    rw [Exit.noGoto_ret]
    go_ret2
    rw [VN.out (.inr (.inr h64))]
    exact ⟨_, rfl, lpost_nil (M.out.fr FB.out) (FB.out.mono (by simp))⟩
  have d2 : decide (64 < (d.length : Int)) = false := by simp; omega
  have d2' : decide ((d.length : Int) > 64) = false := by simp; omega
  have hVY := VY.out (by omega)
  have hHA := fun W f => HA.out W f (by omega) (by omega) (by omega)
  have hok2 := HOK2.out (by omega)
  clear VY HA VN HOK2
  have HVY := Lib.hid hVY
  have HHA := Lib.hid hHA
  have OK2 := Lib.hid hok2
  clear hVY hHA hok2
  have BBk := Lib.hid bb
  clear bb
  go_upto_region 7 with ((with_reducible refine gate_store 69 (.tmp 6) ?_); refine wpList_store_blk rfl 69 (.tmp 6) (.tmp 33) rfl bk 69 #[.nilFunc, .nilFunc, .nilFunc, .nilFunc, .nilFunc, .nilFunc] (arF H.g) rfl rfl BBk.out rfl (by kernel_rfl) (by simp [Value.oneCell']) ?_; intro wc bc fc)
  have nbk : bk ≠ w.heap.size := by omega
  have FC : Hid (Fr [] w wc) := Lib.hid (FB.out.trans fc (fun y hy => .inr (by simp at hy; omega)))
  have b2 := B1.out.fr fc (by simp; omega)
  obtain ⟨y0, y1, y2, y3, y4⟩ := cells5 b2
  have c0 : wc.cell? ⟨H.g, 0, none⟩ = some (.int .i64 x.at_) := (scells (M.out.fr FC.out).blk).c0
  have hat0 := OK.out.at0
  have hat5 := OK.out.at5
  have B2 := Lib.hid b2
  have BC := Lib.hid bc
  clear b2 bc fc BBk FB B1
  obtain hat | hat | hat | hat | hat : x.at_ = 1 ∨ x.at_ = 2 ∨ x.at_ = 3 ∨ x.at_ = 4 ∨ x.at_ = 5 := by omega
  all_goals
    rw [hat] at c0
    rw [hat] at HHA
    clear hat hat0 hat5
  · have k1 : wc.cell? ⟨bk, 1, none⟩ = some (.func (.func 21) #[ptr H.g] #[]) := by simpa using BC.out.cell 1
    have hc : ∀ W, Fr [] wc W → Calls Try.prog 21 #[ptr H.g, agP ⟨fl, sq, ak, wi, d⟩ (.slice A d.length c)] W (LPost S W H y) := fun W f => HHA.out W (FC.out.trans f (by simp))
    have HC := Lib.hid hc
    clear hc
    go_region_with (first
        | (go_at_call 21; refine (HC.out _ (Fr.refl [] wc).drew).mono ?_; rintro e w2 ⟨S2, H2, v2, L2, rfl, hL2, x2, lk2, m2, p2, n2, f2⟩; have hse := sends_si m2 OK2.out.s p2 (fun b hb => (n2 b hb).2) (by have h1 := HCL.out; rw [← hL2, List.length_map] at h1; omega); rw [lk2.g] at hse; have HSE := Lib.hid hse; have X2 := Lib.hid x2; have LK2 := Lib.hid lk2; have N2 := Lib.hid n2; have F2 := Lib.hid f2; have HL2 := Lib.hid hL2; clear hse x2 lk2 m2 p2 n2 f2 hL2)
        | (go_at_call 26; refine HSE.out.mono ?_; rintro e w3 ⟨S3, v3, L3, rfl, hp3⟩; have HP3 : Hid (LPost S w H ((sendsV y.1).1, y.2 ++ (sendsV y.1).2) (.returned v3) w3) := Lib.hid (come_end FC.out HL2.out X2.out LK2.out N2.out F2.out ⟨S3, v3, L3, rfl, hp3⟩); clear hp3))
    all_goals
      go_wp2_with fail
      rw [fwd_ret]
      go_ret2
      rw [HVY.out]
      exact ⟨_, rfl, HP3.out⟩
  · have k1 : wc.cell? ⟨bk, 2, none⟩ = some (.func (.func 22) #[ptr H.g] #[]) := by simpa using BC.out.cell 2
    have hc : ∀ W, Fr [] wc W → Calls Try.prog 22 #[ptr H.g, agP ⟨fl, sq, ak, wi, d⟩ (.slice A d.length c)] W (LPost S W H y) := fun W f => HHA.out W (FC.out.trans f (by simp))
    have HC := Lib.hid hc
    clear hc
    go_region_with (first
        | (go_at_call 22; refine (HC.out _ (Fr.refl [] wc).drew).mono ?_; rintro e w2 ⟨S2, H2, v2, L2, rfl, hL2, x2, lk2, m2, p2, n2, f2⟩; have hse := sends_si m2 OK2.out.s p2 (fun b hb => (n2 b hb).2) (by have h1 := HCL.out; rw [← hL2, List.length_map] at h1; omega); rw [lk2.g] at hse; have HSE := Lib.hid hse; have X2 := Lib.hid x2; have LK2 := Lib.hid lk2; have N2 := Lib.hid n2; have F2 := Lib.hid f2; have HL2 := Lib.hid hL2; clear hse x2 lk2 m2 p2 n2 f2 hL2)
        | (go_at_call 26; refine HSE.out.mono ?_; rintro e w3 ⟨S3, v3, L3, rfl, hp3⟩; have HP3 : Hid (LPost S w H ((sendsV y.1).1, y.2 ++ (sendsV y.1).2) (.returned v3) w3) := Lib.hid (come_end FC.out HL2.out X2.out LK2.out N2.out F2.out ⟨S3, v3, L3, rfl, hp3⟩); clear hp3))
    all_goals
      go_wp2_with fail
      rw [fwd_ret]
      go_ret2
      rw [HVY.out]
      exact ⟨_, rfl, HP3.out⟩
  · have k1 : wc.cell? ⟨bk, 3, none⟩ = some (.func (.func 23) #[ptr H.g] #[]) := by simpa using BC.out.cell 3
    have hc : ∀ W, Fr [] wc W → Calls Try.prog 23 #[ptr H.g, agP ⟨fl, sq, ak, wi, d⟩ (.slice A d.length c)] W (LPost S W H y) := fun W f => HHA.out W (FC.out.trans f (by simp))
    have HC := Lib.hid hc
    clear hc
    go_region_with (first
        | (go_at_call 23; refine (HC.out _ (Fr.refl [] wc).drew).mono ?_; rintro e w2 ⟨S2, H2, v2, L2, rfl, hL2, x2, lk2, m2, p2, n2, f2⟩; have hse := sends_si m2 OK2.out.s p2 (fun b hb => (n2 b hb).2) (by have h1 := HCL.out; rw [← hL2, List.length_map] at h1; omega); rw [lk2.g] at hse; have HSE := Lib.hid hse; have X2 := Lib.hid x2; have LK2 := Lib.hid lk2; have N2 := Lib.hid n2; have F2 := Lib.hid f2; have HL2 := Lib.hid hL2; clear hse x2 lk2 m2 p2 n2 f2 hL2)
        | (go_at_call 26; refine HSE.out.mono ?_; rintro e w3 ⟨S3, v3, L3, rfl, hp3⟩; have HP3 : Hid (LPost S w H ((sendsV y.1).1, y.2 ++ (sendsV y.1).2) (.returned v3) w3) := Lib.hid (come_end FC.out HL2.out X2.out LK2.out N2.out F2.out ⟨S3, v3, L3, rfl, hp3⟩); clear hp3))
    all_goals
      go_wp2_with fail
      rw [fwd_ret]
      go_ret2
      rw [HVY.out]
      exact ⟨_, rfl, HP3.out⟩
  · have k1 : wc.cell? ⟨bk, 4, none⟩ = some (.func (.func 24) #[ptr H.g] #[]) := by simpa using BC.out.cell 4
    have hc : ∀ W, Fr [] wc W → Calls Try.prog 24 #[ptr H.g, agP ⟨fl, sq, ak, wi, d⟩ (.slice A d.length c)] W (LPost S W H y) := fun W f => HHA.out W (FC.out.trans f (by simp))
    have HC := Lib.hid hc
    clear hc
    go_region_with (first
        | (go_at_call 24; refine (HC.out _ (Fr.refl [] wc).drew).mono ?_; rintro e w2 ⟨S2, H2, v2, L2, rfl, hL2, x2, lk2, m2, p2, n2, f2⟩; have hse := sends_si m2 OK2.out.s p2 (fun b hb => (n2 b hb).2) (by have h1 := HCL.out; rw [← hL2, List.length_map] at h1; omega); rw [lk2.g] at hse; have HSE := Lib.hid hse; have X2 := Lib.hid x2; have LK2 := Lib.hid lk2; have N2 := Lib.hid n2; have F2 := Lib.hid f2; have HL2 := Lib.hid hL2; clear hse x2 lk2 m2 p2 n2 f2 hL2)
        | (go_at_call 26; refine HSE.out.mono ?_; rintro e w3 ⟨S3, v3, L3, rfl, hp3⟩; have HP3 : Hid (LPost S w H ((sendsV y.1).1, y.2 ++ (sendsV y.1).2) (.returned v3) w3) := Lib.hid (come_end FC.out HL2.out X2.out LK2.out N2.out F2.out ⟨S3, v3, L3, rfl, hp3⟩); clear hp3))
    all_goals
      go_wp2_with fail
      rw [fwd_ret]
      go_ret2
      rw [HVY.out]
      exact ⟨_, rfl, HP3.out⟩
  · have k1 : wc.cell? ⟨bk, 5, none⟩ = some (.func (.func 25) #[ptr H.g] #[]) := by simpa using BC.out.cell 5
    have hc : ∀ W, Fr [] wc W → Calls Try.prog 25 #[ptr H.g, agP ⟨fl, sq, ak, wi, d⟩ (.slice A d.length c)] W (LPost S W H y) := fun W f => HHA.out W (FC.out.trans f (by simp))
    have HC := Lib.hid hc
    clear hc
    go_region_with (first
        | (go_at_call 25; refine (HC.out _ (Fr.refl [] wc).drew).mono ?_; rintro e w2 ⟨S2, H2, v2, L2, rfl, hL2, x2, lk2, m2, p2, n2, f2⟩; have hse := sends_si m2 OK2.out.s p2 (fun b hb => (n2 b hb).2) (by have h1 := HCL.out; rw [← hL2, List.length_map] at h1; omega); rw [lk2.g] at hse; have HSE := Lib.hid hse; have X2 := Lib.hid x2; have LK2 := Lib.hid lk2; have N2 := Lib.hid n2; have F2 := Lib.hid f2; have HL2 := Lib.hid hL2; clear hse x2 lk2 m2 p2 n2 f2 hL2)
        | (go_at_call 26; refine HSE.out.mono ?_; rintro e w3 ⟨S3, v3, L3, rfl, hp3⟩; have HP3 : Hid (LPost S w H ((sendsV y.1).1, y.2 ++ (sendsV y.1).2) (.returned v3) w3) := Lib.hid (come_end FC.out HL2.out X2.out LK2.out N2.out F2.out ⟨S3, v3, L3, rfl, hp3⟩); clear hp3))
    all_goals
      go_wp2_with fail
      rw [fwd_ret]
      go_ret2
      rw [HVY.out]
      exact ⟨_, rfl, HP3.out⟩
end Go.Proofs.Ytmgdbbbdhkfdmaa
