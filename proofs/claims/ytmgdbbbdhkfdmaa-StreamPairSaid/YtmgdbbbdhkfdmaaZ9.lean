import Derived.Test.YtmgdbbbdhkfdmaaZ2
import Derived.Test.YtmgdbbbdhkfdmaaZ3
import Derived.Test.YtmgdbbbdhkfdmaaZ0
import Derived.Test.YtmgdbbbdhkfdmaaZ4
import Derived.Test.YtmgdbbbdhkfdmaaZ8
import Derived.Test.YtmgdbbbdhkfdmaaZ1
import Derived.Deep.DeepCutAuto
set_option linter.unusedSimpArgs false
set_option linter.unusedVariables false
/-
  The plain functions of an end of a stream: numbers and lists alone.
-/
namespace Go.Proofs.Ytmgdbbbdhkfdmaa
set_option maxRecDepth 100000

/-- An end: its numbers, where it is, what was written, what is unread, its parts. -/
structure St where
  isn : Int
  peer : Int
  at_ : Int
  broken : Bool
  all : List Int
  unread : List Int
  win : Win.Wn
  clk : Rto.Ck
  heap : Hp
  closing : Bool
  fin : Bool
  acked : Bool
  ended : Bool
  now : Int
  since : Int
  timed : Int
  shown : Int
/-- A part. -/
structure Prt where
  flags : Int
  seq : Int
  ack : Int
  win : Int
  d : List Int
def one (b : Bool) : Int := if b then 1 else 0
def add32 (n m : Int) : Int := (n + m) % 4294967296
def awaitedV (s : St) : Int := add32 s.peer (1 + s.heap.next + one s.ended)
def roomV (s : St) : Int := (Win.offerV 1024 (min 1024 (s.unread.length + sumV s.heap.kept))).1
/-- The room is shown. -/
def shows (s : St) : St := { s with shown := roomV s }
def partV (s : St) (f a : Int) (d : List Int) : Prt := ⟨f, add32 s.isn (1 + a), awaitedV s, roomV s, d⟩
def answerV (s : St) : Prt := partV s 2 (s.win.m + one s.fin) []
def beginsV (s : St) : Prt := if s.at_ = 3 then ⟨3, s.isn, awaitedV s, roomV s, []⟩ else ⟨1, s.isn, 0, roomV s, []⟩
def doneV (s : St) (b : Bool) : St := { s with at_ := 5, broken := b }
def opensV (s : St) (r : Int) : St := { s with at_ := 4, win := (Win.ackV s.win 0 r).1, clk := Rto.stopV s.clk }
def waitsV (s : St) : Bool := s.at_ == 2 || (s.at_ == 3 || (s.at_ == 4 && (decide (s.win.a < s.win.m) || (s.fin && !s.acked || Win.zeroV s.win && decide (s.win.a < s.all.length)))))
def restsV (s : St) : St :=
  if waitsV s && !s.clk.rn then { s with clk := (Rto.startV s.clk s.now).1 }
  else if !waitsV s && s.clk.rn then { s with clk := Rto.stopV s.clk }
  else s
def placeV (number first near : Int) : Int := (Sne.nearV ((number - first - 1) % 4294967296) near).1
def has (f n : Int) : Bool := f / n % 2 == 1
def endsV (x : St) (p : Prt) : Bool := x.fin && decide (placeV p.ack x.isn x.win.a = x.all.length + 1)
def uptoV (x : St) (p : Prt) : Int := if endsV x p then (x.all.length : Int) else placeV p.ack x.isn x.win.a
/-- Behind the window's Ack. -/
def acks2V (x : St) (v : Win.Wn) (more : Int) (ends : Bool) : St :=
  if more = 0 ∧ (!ends || x.acked) = true then { x with win := v }
  else if 0 < x.timed ∧ x.timed ≤ v.a then { x with win := v, acked := x.acked || ends, timed := 0, clk := Rto.stopV (Rto.sampleV x.clk (x.now - x.since)).1 }
  else { x with win := v, acked := x.acked || ends, clk := Rto.stopV x.clk }
def acksV (x : St) (p : Prt) : St := acks2V x (Win.ackV x.win (uptoV x p) p.win).1 (Win.ackV x.win (uptoV x p) p.win).2.1 (endsV x p)
def dataV (s : St) (p : Prt) : St :=
  let a := placeV p.seq s.peer s.heap.next
  let h1 := if has p.flags 4 then (endV s.heap (a + p.d.length)).1 else s.heap
  let t := putV h1 a p.d
  let s1 := if 0 < p.d.length ∧ a + p.d.length - h1.next ≤ 1024 - s.unread.length then { s with heap := t.1, unread := s.unread ++ t.2.1 } else { s with heap := h1 }
  { s1 with ended := isFinV s1.heap }
where isFinV (h : Hp) : Bool := match h.fin with | none => false | some a => a == h.next
def openV (s : St) (p : Prt) : St × List Prt :=
  if has p.flags 8 then (if p.seq = awaitedV s then doneV s true else s, [])
  else if has p.flags 1 then (shows s, [answerV s])
  else if !has p.flags 2 then (s, [])
  else
    let s1 := acksV s p
    let s2 := if s1.ended then s1 else dataV s1 p
    if p.d.length = 0 ∧ has p.flags 4 = false then (s2, []) else (shows s2, [answerV s2])
def listenV (s : St) (p : Prt) : St × List Prt :=
  if p.flags = 1 then (shows { s with peer := p.seq, at_ := 3 }, [beginsV { s with peer := p.seq, at_ := 3 }]) else (s, [])
def callsV (s : St) (p : Prt) : St × List Prt :=
  if p.flags = 1 then listenV s p
  else if p.ack ≠ add32 s.isn 1 ∨ has p.flags 2 = false then (s, [])
  else if p.flags = 3 then (shows (opensV { s with peer := p.seq } p.win), [answerV (opensV { s with peer := p.seq } p.win)])
  else if p.flags = 10 then (doneV s true, [])
  else (s, [])
def heardV (s : St) (p : Prt) : St × List Prt :=
  if p.flags = 1 then listenV s p
  else if p.flags = 3 ∧ p.seq = s.peer ∧ p.ack = add32 s.isn 1 then (shows (opensV s p.win), [answerV (opensV s p.win)])
  else if has p.flags 8 then openV s p
  else if has p.flags 1 = true ∨ has p.flags 2 = false ∨ p.ack ≠ add32 s.isn 1 then (s, [])
  else openV (opensV s p.win) p
def endedV (s : St) (p : Prt) : St × List Prt :=
  if s.broken = true ∨ ¬ (p.flags = 2 ∨ p.flags = 6) ∨ (has p.flags 4 = false ∧ p.d.length = 0) then (s, []) else (shows s, [answerV s])
def comesV (s : St) (p : Prt) : St × List Prt :=
  if s.at_ = 1 then listenV s p else if s.at_ = 2 then callsV s p else if s.at_ = 3 then heardV s p else if s.at_ = 4 then openV s p else endedV s p
/-- How much is sent next. -/
def nextV (s : St) : Int := min 64 (min (s.all.length - s.win.s) (Win.roomV s.win))
def sendV (s : St) : St × Prt :=
  let n := nextV s
  let s1 := { s with win := (Win.takeV s.win n).1 }
  let p := partV s1 2 s.win.s ((s.all.drop s.win.s.toNat).take n.toNat)
  let s2 := shows s1
  (if s.timed = 0 then { s2 with timed := s.win.s + n, since := s.now } else s2, p)
def loopV : Nat → St → St × List Prt
  | 0, s => (s, [])
  | k + 1, s => if 0 < nextV s then ((loopV k (sendV s).1).1, (sendV s).2 :: (loopV k (sendV s).1).2) else (s, [])
def sendsV (s : St) : St × List Prt :=
  if s.at_ = 4 then
    let r := loopV s.all.length s
    let s1 := r.1
    let f := s1.closing && decide (s1.win.s = s1.all.length) && !s1.fin
    let s2 := if f then { shows s1 with fin := true } else s1
    let l2 := if f then [partV s1 6 s1.all.length []] else []
    let s3 := if s2.ended && s2.acked then doneV s2 false else s2
    (restsV s3, r.2 ++ l2)
  else (restsV s, [])
def comeV (s : St) (p : Prt) : St × List Prt × Int :=
  if p.flags < 0 ∨ 15 < p.flags ∨ 64 < p.d.length then (s, [], 2)
  else ((sendsV (comesV s p).1).1, (comesV s p).2 ++ (sendsV (comesV s p).1).2, 0)
def overV (s : St) : Bool := s.at_ == 5 || s.closing
def writeV (s : St) (b : List Int) : St × List Prt × Int :=
  if overV s then (s, [], 260)
  else if 4096 - (s.all.length - s.win.a) < b.length then (s, [], 3)
  else ((sendsV { s with all := s.all ++ b }).1, (sendsV { s with all := s.all ++ b }).2, 0)
def closeV (s : St) : St × List Prt × Int :=
  if overV s then (s, [], 260) else ((sendsV { s with closing := true }).1, (sendsV { s with closing := true }).2, 0)
def resetV (s : St) : St × List Prt × Int :=
  if s.at_ = 5 then (s, [], 260)
  else if s.at_ = 3 ∨ s.at_ = 4 then (restsV (doneV (shows s) true), [partV s 10 (s.win.m + one s.fin) []], 0)
  else (restsV (doneV s true), [], 0)
def againV (s : St) : St × Prt :=
  if s.at_ ≠ 4 then (shows s, beginsV s)
  else if 0 < min 64 (s.win.m - s.win.a) then (shows s, partV s 2 s.win.a ((s.all.drop s.win.a.toNat).take (min 64 (s.win.m - s.win.a)).toNat))
  else if s.fin then (shows s, partV s 6 s.all.length [])
  else
    let s1 := { s with win := (Win.probeV s.win).1 }
    (shows s1, partV s1 2 (Win.probeV s.win).2.1 ((s.all.drop s.win.a.toNat).take 1))
def tickV (s : St) : St × List Prt :=
  let s1 := { s with now := s.now + 1 }
  if Rto.dueV s1.clk s1.now then
    let t := Rto.lateV s1.clk s1.now
    let s2 := { s1 with clk := t.1 }
    if t.2.1 then (restsV (againV { s2 with timed := 0 }).1, [(againV { s2 with timed := 0 }).2]) else (restsV (doneV s2 true), [])
  else (s1, [])
def readV (s : St) : St × List Int × List Prt :=
  let s1 := { s with unread := [] }
  if s.shown = 0 ∧ s.at_ = 4 ∧ 0 < roomV s1 then (shows s1, s.unread, [answerV s1]) else (s1, s.unread, [])
def newS (isn : Int) (at_ : Int) : St := ⟨isn, 0, at_, false, [], [], ⟨0, 0, 0, 0⟩, Rto.newV 2 1 32 8, newV 8, false, false, false, false, 0, 0, 0, 0⟩
def newSV (isn : Int) (calls : Bool) : St × List Prt :=
  if calls then (restsV (shows (newS isn 2)), [beginsV (newS isn 2)]) else (newS isn 1, [])
end Go.Proofs.Ytmgdbbbdhkfdmaa

namespace Go.Proofs.Ytmgdbbbdhkfdmaa
set_option maxRecDepth 100000
open Go.RowKit Go.Deep

/-- Where an end's parts lie. -/
structure Hd where
  g : Nat
  gw : Nat
  gc : Nat
  gh : Nat
  bv : Value
  uv : Value
  kv : Value
abbrev arS (x : St) (H : Hd) : Array Value := #[.int .i64 x.at_, .bool x.broken, .int .u32 x.peer, .int .i64 0, .int .i64 0, .int .i64 0, .int .i64 0, .int .i64 x.all.length, .int .i64 0, .int .i64 0, .int .i64 0, .bool x.closing, .bool x.ended,
  .int .u32 x.isn, H.bv, H.uv, ptr H.gw, ptr H.gc, ptr H.gh, .bool x.fin, .bool x.acked, .int .i64 x.now, .int .i64 x.timed, .int .i64 x.since, .int .i64 x.shown]
/-- What is yet to be acknowledged. -/
def bufV (x : St) : List Int := x.all.drop x.win.a.toNat
/-- An end stands in memory. -/
structure SI (S : Nat → Prop) (w : World) (H : Hd) (x : St) : Prop where
  blk : Blk w H.g 39 (arS x H)
  win : Win.Win w H.gw x.win true
  clk : Rto.Clk w H.gc x.clk
  hp : HP S w H.gh H.kv x.heap
  buf : w.ownsRow 0 5 1 H.bv (bufV x).length (byts (bufV x))
  unr : w.ownsRow 0 5 1 H.uv x.unread.length (byts x.unread)
  nS : ∀ y, (y = H.g ∨ y = H.gw ∨ y = H.gc ∨ y ∈ ob H.bv ∨ y ∈ ob H.uv) → ¬ S y
  bu : ∀ y ∈ ob H.bv, y ∉ ob H.uv
def Hd.own (H : Hd) : List Nat := H.g :: H.gw :: H.gc :: H.gh :: (ob H.kv ++ (ob H.bv ++ ob H.uv))
theorem ext_up {w w' : World} {S S' : Nat → Prop} (h : Ext w' S S') (hz : w.heap.size ≤ w'.heap.size) : Ext w S S' := ⟨h.1, fun b hb => (h.2 b hb).imp id (fun h => by omega)⟩
section
variable {S S' : Nat → Prop} {w w' : World} {H : Hd} {x x' : St}
theorem SI.lt (m : SI S w H x) : ∀ y ∈ H.own, y < w.heap.size := by
  intro y hy
  have hk : ∀ y ∈ ob H.kv, y < w.heap.size := fun y hy => by
    obtain ⟨ev, L, m⟩ := m.hp
    exact own_lt m.kp.own (mem_ob.1 hy)
  have hg : H.gh < w.heap.size := by
    obtain ⟨ev, L, m⟩ := m.hp
    exact m.blk.lt
  simp only [Hd.own, List.mem_cons, List.mem_append] at hy
  rcases hy with rfl | rfl | rfl | rfl | hy | hy | hy
  · exact m.blk.lt
  · exact Blk.lt m.win
  · exact Blk.lt m.clk
  · exact hg
  · exact hk y hy
  · exact own_lt m.buf (mem_ob.1 hy)
  · exact own_lt m.unr (mem_ob.1 hy)
theorem HP.off' {g : Nat} {kv : Value} {h : Hp} (m : HP S w g kv h) : ∀ y ∈ g :: ob kv, ¬ S y := fun y hy => by
  obtain ⟨ev, L, m⟩ := m
  rcases List.mem_cons.1 hy with rfl | hy
  · exact m.offg
  · exact m.offk y (mem_ob.1 hy)
theorem SI.off (m : SI S w H x) : ∀ y ∈ H.own, ¬ S y := by
  intro y hy
  have hk := HP.off' m.hp
  simp only [Hd.own, List.mem_cons, List.mem_append] at hy
  rcases hy with h | h | h | h | h | h | h
  · exact m.nS y (.inl h)
  · exact m.nS y (.inr (.inl h))
  · exact m.nS y (.inr (.inr (.inl h)))
  · exact hk y (by simp [h])
  · exact hk y (List.mem_cons_of_mem _ h)
  · exact m.nS y (.inr (.inr (.inr (.inl h))))
  · exact m.nS y (.inr (.inr (.inr (.inr h))))
theorem HP.pub' {g : Nat} {kv : Value} {h : Hp} (m : HP S w g kv h) : ∀ b, S b → b < w.heap.size := by
  obtain ⟨ev, L, m⟩ := m
  exact m.pub
theorem HP.ext' {g : Nat} {kv : Value} {h : Hp} {O : List Nat} (m : HP S w g kv h) (f : Fr O w w') (x : Ext w S S') (hO : ∀ y ∈ O, ¬ S y) (hg : ∀ y ∈ g :: ob kv, y ∉ O) (hp : ∀ b, S' b → b < w'.heap.size) : HP S' w' g kv h := by
  obtain ⟨ev, L, m⟩ := m
  exact ⟨ev, L, m.ext f x hO (hg g (by simp)) (fun b hb => hg b (List.mem_cons_of_mem _ (mem_ob.2 hb))) hp⟩
/-- Nothing of it was turned; more may be public. -/
theorem SI.ext (m : SI S w H x) (f : Fr [] w w') (e : Ext w S S') (hp : ∀ b, S' b → b < w'.heap.size) : SI S' w' H x :=
  ⟨m.blk.fr f (by simp), Blk.fr m.win f (by simp), Blk.fr m.clk f (by simp), m.hp.ext' f e (by simp) (by simp) hp, own_fr m.buf f (by simp), own_fr m.unr f (by simp),
    fun y hy hs => by
      rcases e.2 y hs with h | h
      · exact m.nS y hy h
      · have : y < w.heap.size := m.lt y (by
          simp only [Hd.own, List.mem_cons, List.mem_append]
          rcases hy with h | h | h | h | h <;> simp [h])
        omega, m.bu⟩
theorem SI.fr (m : SI S w H x) (f : Fr [] w w') : SI S w' H x := m.ext f (Ext.refl w S) (fun b hb => Nat.lt_of_lt_of_le (HP.pub' m.hp b hb) f.size)
theorem SI.ne_w (m : SI S w H x) : H.gw ≠ H.g := blk_ne m.win m.blk (by decide)
theorem SI.ne_c (m : SI S w H x) : H.gc ≠ H.g := blk_ne m.clk m.blk (by decide)
theorem SI.ne_h (m : SI S w H x) : ∀ y ∈ H.gh :: ob H.kv, y ≠ H.g := by
  obtain ⟨ev, L, n⟩ := m.hp
  intro y hy
  rcases List.mem_cons.1 hy with rfl | hy
  · exact blk_ne n.blk m.blk (by decide)
  · rintro rfl; exact own_ne n.kp.own m.blk (by decide) (mem_ob.1 hy)
theorem SI.ne_b (m : SI S w H x) : ∀ y ∈ ob H.bv, y ≠ H.g := fun y hy => by rintro rfl; exact own_ne m.buf m.blk (by decide) (mem_ob.1 hy)
theorem SI.ne_u (m : SI S w H x) : ∀ y ∈ ob H.uv, y ≠ H.g := fun y hy => by rintro rfl; exact own_ne m.unr m.blk (by decide) (mem_ob.1 hy)
/-- Only the block of the end itself was turned. -/
theorem SI.set (m : SI S w H x) (f : Fr [H.g] w w') (B : Blk w' H.g 39 (arS x' H)) (e1 : x'.win = x.win) (e2 : x'.clk = x.clk) (e3 : x'.heap = x.heap) (e4 : x'.all = x.all) (e5 : x'.unread = x.unread) : SI S w' H x' := by
  have hO : ∀ y ∈ [H.g], ¬ S y := fun y hy => by simp at hy; subst hy; exact m.nS _ (.inl rfl)
  have hb : bufV x' = bufV x := by unfold bufV; rw [e1, e4]
  refine ⟨B, by rw [e1]; exact Blk.fr m.win f (by simpa using m.ne_w), by rw [e2]; exact Blk.fr m.clk f (by simpa using m.ne_c), ?_, ?_, ?_, m.nS, m.bu⟩
  · rw [e3]
    exact m.hp.ext' f (Ext.refl w S) hO (fun y hy => by simpa using m.ne_h y hy) (fun b hb => Nat.lt_of_lt_of_le (HP.pub' m.hp b hb) f.size)
  · rw [hb]
    exact own_fr m.buf f (fun b hb => by simpa using m.ne_b b (mem_ob.2 hb))
  · rw [e5]
    exact own_fr m.unr f (fun b hb => by simpa using m.ne_u b (mem_ob.2 hb))
end
/-- The cells of an end. -/
structure SCells (w : World) (H : Hd) (x : St) : Prop where
  c0 : w.cell? ⟨H.g, 0, none⟩ = some (.int .i64 x.at_)
  c1 : w.cell? ⟨H.g, 1, none⟩ = some (.bool x.broken)
  c2 : w.cell? ⟨H.g, 2, none⟩ = some (.int .u32 x.peer)
  c7 : w.cell? ⟨H.g, 7, none⟩ = some (.int .i64 x.all.length)
  c11 : w.cell? ⟨H.g, 11, none⟩ = some (.bool x.closing)
  c12 : w.cell? ⟨H.g, 12, none⟩ = some (.bool x.ended)
  c13 : w.cell? ⟨H.g, 13, none⟩ = some (.int .u32 x.isn)
  c14 : w.cell? ⟨H.g, 14, none⟩ = some H.bv
  c15 : w.cell? ⟨H.g, 15, none⟩ = some H.uv
  c16 : w.cell? ⟨H.g, 16, none⟩ = some (ptr H.gw)
  c17 : w.cell? ⟨H.g, 17, none⟩ = some (ptr H.gc)
  c18 : w.cell? ⟨H.g, 18, none⟩ = some (ptr H.gh)
  c19 : w.cell? ⟨H.g, 19, none⟩ = some (.bool x.fin)
  c20 : w.cell? ⟨H.g, 20, none⟩ = some (.bool x.acked)
  c21 : w.cell? ⟨H.g, 21, none⟩ = some (.int .i64 x.now)
  c22 : w.cell? ⟨H.g, 22, none⟩ = some (.int .i64 x.timed)
  c23 : w.cell? ⟨H.g, 23, none⟩ = some (.int .i64 x.since)
  c24 : w.cell? ⟨H.g, 24, none⟩ = some (.int .i64 x.shown)
theorem scells {w : World} {H : Hd} {x : St} (B : Blk w H.g 39 (arS x H)) : SCells w H x :=
  ⟨B.cell 0, B.cell 1, B.cell 2, B.cell 7, B.cell 11, B.cell 12, B.cell 13, B.cell 14, B.cell 15, B.cell 16, B.cell 17, B.cell 18, B.cell 19, B.cell 20, B.cell 21, B.cell 22, B.cell 23, B.cell 24⟩
theorem snone_nil (w : World) : Calls Try.prog 20 #[.pointer none] w fun e w' => e = .returned (.bool true) ∧ w = w' := by
  go_enter Try.func20, Try.ntmps20
  go_wp2
  go_ret
  exact ⟨rfl, rfl⟩
theorem snone_z (g : Nat) (w : World) (c : w.cell? ⟨g, 16, none⟩ = some (.pointer none)) : Calls Try.prog 20 #[ptr g] w fun e w' => e = .returned (.bool true) ∧ w = w' := by
  go_enter Try.func20, Try.ntmps20
  go_wp2
  go_ret
  exact ⟨rfl, rfl⟩
theorem snone_si (g gw : Nat) (w : World) (c : w.cell? ⟨g, 16, none⟩ = some (ptr gw)) : Calls Try.prog 20 #[ptr g] w fun e w' => e = .returned (.bool false) ∧ w = w' := by
  go_enter Try.func20, Try.ntmps20
  go_wp2
  go_ret
  exact ⟨rfl, rfl⟩
theorem flag_any (b : Bool) (w : World) : Calls Try.prog 35 #[.bool b] w fun e w' => e = .returned (.int .i64 (one b)) ∧ w = w' := by
  cases b
  all_goals
    go_enter Try.func35, Try.ntmps35
    go_wp2
    go_ret
    exact ⟨rfl, rfl⟩
end Go.Proofs.Ytmgdbbbdhkfdmaa

namespace Go.Proofs.Ytmgdbbbdhkfdmaa
set_option maxRecDepth 100000
open Go.RowKit Go.Deep

theorem wrap32 (a : Int) : IntKind.u32.wrap a = a % 4294967296 := by simp [IntKind.wrap, IntKind.signed, IntKind.bits]
theorem wrap16 (a : Int) : IntKind.u16.wrap a = a % 65536 := by simp [IntKind.wrap, IntKind.signed, IntKind.bits]
theorem wrap_add32 (n m : Int) : IntKind.u32.wrap (n + IntKind.u32.wrap m) = add32 n m := by rw [wrap32, wrap32]; unfold add32; omega
theorem one_bd (b : Bool) : 0 ≤ one b ∧ one b ≤ 1 := by cases b <;> simp [one]
set_option maxHeartbeats 2000000 in
theorem awaited_si {S : Nat → Prop} {w : World} {H : Hd} {x : St} (m : SI S w H x) (hi : Inv x.heap) : Calls Try.prog 55 #[ptr H.g] w fun e w' => e = .returned (.int .u32 (awaitedV x)) ∧ Fr [] w w' := by
  have c := scells m.blk
  have hn0 := hi.n0
  have hn1 := hi.n1
  have ho := one_bd x.ended
  have h1 : IntKind.i64.wrap (1 + x.heap.next) = 1 + x.heap.next := IntWalk.i64_in _ (by omega)
  have h2 : IntKind.i64.wrap (1 + x.heap.next + one x.ended) = 1 + x.heap.next + one x.ended := IntWalk.i64_in _ (by omega)
  have h3 := wrap_add32 x.peer (1 + x.heap.next + one x.ended)
  have y0 := Grew.cell c.c2
  have y1 := Grew.cell c.c18
  have y2 := Grew.cell c.c12
  have hN : ∀ p : Grew w, Calls Try.prog 42 #[ptr H.gh] p.W fun e w' => e = .returned (.int .i64 x.heap.next) ∧ ∃ q : Grew w, w' = q.W := fun p => grew_same (next_hp (m.hp.ext' p.fr (Ext.refl w S) (by simp) (by simp) (fun b hb => Nat.lt_of_lt_of_le (HP.pub' m.hp b hb) p.fr.size)))
  have hF : ∀ p : Grew w, Calls Try.prog 35 #[.bool x.ended] p.W fun e w' => e = .returned (.int .i64 (one x.ended)) ∧ ∃ q : Grew w, w' = q.W := fun p => grew_same (flag_any _ _)
  have HN := Lib.hid hN
  have HF := Lib.hid hF
  clear hN hF c m hn0 hn1 ho hi
  go_enter Try.func55, Try.ntmps55
  go_wp2_with fail
  refine wp_region_grew (by kernel_rfl) (by kernel_rfl) ?_
  repeat (go_big_quiet_step (first | (go_at_call 42; exact HN.out _) | (go_at_call 35; exact HF.out _)))
  refine wpQuiet_nil ?_
  intro W1 f1
  go_wp2_with fail
  go_ret
  exact ⟨ret1_eq (by unfold awaitedV add32; omega), f1⟩
theorem sum_le (h : Hp) (hi : Inv h) : 0 ≤ sumV h.kept ∧ sumV h.kept ≤ 4096 := by
  have h1 := sum_bd h.kept (fun p hp => (hi.pc p hp).2.2.2)
  have h2 := hi.len
  have h3 := hi.m1
  omega
set_option maxHeartbeats 2000000 in
theorem room_si {S : Nat → Prop} {w : World} {H : Hd} {x : St} (m : SI S w H x) (hi : Inv x.heap) (hu : x.unread.length ≤ 100000) : Calls Try.prog 40 #[ptr H.g] w fun e w' => e = .returned (.int .i64 (roomV x)) ∧ Fr [] w w' := by
  have c := scells m.blk
  have hs := sum_le x.heap hi
  obtain ⟨uA, uc, hu1, _, _⟩ := own_form m.unr
  have h1 : IntKind.i64.wrap ((x.unread.length : Int) + sumV x.heap.kept) = (x.unread.length : Int) + sumV x.heap.kept := IntWalk.i64_in _ (by omega)
  have c15 := c.c15
  rw [hu1] at c15
  have hH : ∀ W, Fr [] w W → Calls Try.prog 69 #[ptr H.gh] W _ := fun W f => held_hp (m.hp.ext' f (Ext.refl w S) (by simp) (by simp) (fun b hb => Nat.lt_of_lt_of_le (HP.pub' m.hp b hb) f.size)) hi
  have hO : ∀ W, Calls Try.prog 68 #[.int .i64 1024, .int .i64 (min 1024 ((x.unread.length : Int) + sumV x.heap.kept))] W _ := fun W => Win.offer_any _ _ W
  have hR : (Win.offerV 1024 (min 1024 ((x.unread.length : Int) + sumV x.heap.kept))).1 = roomV x := rfl
  generalize (Win.offerV 1024 (min 1024 ((x.unread.length : Int) + sumV x.heap.kept))).2 = o2 at *
  rw [hR] at hO
  generalize roomV x = rv at *
  have HH := Lib.hid hH
  have HO := Lib.hid hO
  have c18 := c.c18
  have y0 := Grew.cell c15
  have y1 := Grew.cell c18
  have hH' : ∀ p : Grew w, Calls Try.prog 69 #[ptr H.gh] p.W fun e w' => e = .returned (.int .i64 (sumV x.heap.kept)) ∧ ∃ q : Grew w, w' = q.W := fun p => grew_call (hH p.W p.fr)
  have hO' : ∀ p : Grew w, Calls Try.prog 68 #[.int .i64 1024, .int .i64 (min 1024 ((x.unread.length : Int) + sumV x.heap.kept))] p.W fun e w' => e = .returned (.tuple #[.int .i64 rv, .int .i64 o2]) ∧ ∃ q : Grew w, w' = q.W := fun p => grew_same (hO p.W)
  have HH' := Lib.hid hH'
  have HO' := Lib.hid hO'
  clear hH hO hH' hO' hR c m hi hs hu1 c15 c18
  go_enter Try.func40, Try.ntmps40
  go_wp2_with fail
  refine wp_region_grew (by kernel_rfl) (by kernel_rfl) ?_
  repeat (go_big_quiet_step (first | (go_at_call 69; exact HH'.out _) | (go_at_call 68; exact HO'.out _)))
  refine wpQuiet_nil ?_
  intro W1 f1
  go_wp2_with fail
  go_ret
  exact ⟨rfl, f1⟩
end Go.Proofs.Ytmgdbbbdhkfdmaa

namespace Go.Proofs.Ytmgdbbbdhkfdmaa
set_option maxRecDepth 100000
open Go.RowKit Go.Deep

abbrev agP (p : Prt) (dv : Value) : Value := .agg #[.int .i64 p.flags, .int .u32 p.seq, .int .u32 p.ack, .int .u16 p.win, dv]
def PartPost (S : Nat → Prop) (w : World) (H : Hd) (x' : St) (p : Prt) (e : Ending) (w' : World) : Prop :=
  ∃ S' A c, e = .returned (agP p (.slice A p.d.length c)) ∧ Ext w S S' ∧ Byt S' w' (.slice A p.d.length c) p.d ∧ SI S' w' H x' ∧ Fr [H.g] w w'
theorem room_bd (x : St) : 0 ≤ roomV x ∧ roomV x ≤ 1024 := by
  unfold roomV Win.offerV
  split
  · simp
  · split <;> simp <;> omega
theorem SI.shown {S : Nat → Prop} {w w' : World} {H : Hd} {x : St} (m : SI S w H x) : SI S (w.setCell ⟨H.g, 24, none⟩ (.int .i64 (roomV x))) H (shows x) :=
  m.set ((Fr.refl [H.g] w).setCell (p := ⟨H.g, 24, none⟩) (.inl (by simp)) _) (by simpa [shows] using m.blk.set_ 24 (.int .i64 (roomV x))) rfl rfl rfl rfl rfl
/-- The clone's block becomes public. -/
theorem SI.pubd {S : Nat → Prop} {w w' : World} {H : Hd} {x : St} {A : Option Addr} {c : Nat} {d : List Int} (m : SI S w H x) (f : Fr [] w w') (own : w'.ownsRow 0 5 1 (.slice A d.length c) d.length (byts d)) (fb : ∀ b, (Value.slice A d.length c).ownBlock = some b → w.heap.size ≤ b) :
    ∃ S', Ext w S S' ∧ Byt S' w' (.slice A d.length c) d ∧ SI S' w' H x := by
  have e : Ext w S (fun b => S b ∨ (Value.slice A d.length c).ownBlock = some b) := ⟨fun b h => .inl h, fun b h => h.imp id (fb b)⟩
  refine ⟨_, e, Sl.of_own own (fun b h => .inr h), m.ext f e fun b hb => ?_⟩
  rcases hb with h | h
  · exact Nat.lt_of_lt_of_le (HP.pub' m.hp b h) f.size
  · exact own_lt own h
theorem set5 {w : World} {b : Nat} {t : TypeId} {v0 v1 v2 v3 v4 : Value} (B : Blk w b t #[v0, v1, v2, v3, v4]) (u0 u1 u2 u3 u4 : Value) : Blk (((((w.setCell ⟨b, 0, none⟩ u0).setCell ⟨b, 1, none⟩ u1).setCell ⟨b, 2, none⟩ u2).setCell ⟨b, 3, none⟩ u3).setCell ⟨b, 4, none⟩ u4) b t #[u0, u1, u2, u3, u4] := by
  simpa using ((((B.set_ 0 u0).set_ 1 u1).set_ 2 u2).set_ 3 u3).set_ 4 u4
theorem fr5 {O : List Nat} {a w : World} {b : Nat} (h : Fr O a w) (hp : b ∈ O ∨ a.heap.size ≤ b) (u0 u1 u2 u3 u4 : Value) : Fr O a (((((w.setCell ⟨b, 0, none⟩ u0).setCell ⟨b, 1, none⟩ u1).setCell ⟨b, 2, none⟩ u2).setCell ⟨b, 3, none⟩ u3).setCell ⟨b, 4, none⟩ u4) :=
  ((((h.setCell hp _).setCell hp _).setCell hp _).setCell hp _).setCell hp _
theorem cells5 {w : World} {b : Nat} {t : TypeId} {v0 v1 v2 v3 v4 : Value} (h : Blk w b t #[v0, v1, v2, v3, v4]) : w.cell? ⟨b, 0, none⟩ = some v0 ∧ w.cell? ⟨b, 1, none⟩ = some v1 ∧ w.cell? ⟨b, 2, none⟩ = some v2 ∧ w.cell? ⟨b, 3, none⟩ = some v3 ∧ w.cell? ⟨b, 4, none⟩ = some v4 :=
  ⟨by simpa using h.cell 0, by simpa using h.cell 1, by simpa using h.cell 2, by simpa using h.cell 3, by simpa using h.cell 4⟩
theorem free5 {w : World} {b : Nat} {t : TypeId} {cs : Array Value} (h : Blk w b t cs) : w.frozen? ⟨b, 0, none⟩ = false ∧ w.frozen? ⟨b, 1, none⟩ = false ∧ w.frozen? ⟨b, 2, none⟩ = false ∧ w.frozen? ⟨b, 3, none⟩ = false ∧ w.frozen? ⟨b, 4, none⟩ = false := ⟨h.frozen 0, h.frozen 1, h.frozen 2, h.frozen 3, h.frozen 4⟩
abbrev prt0 : Array Value := #[.int .i64 0, .int .u32 0, .int .u32 0, .int .u16 0, .slice none 0 0]
/-- The end behind its part: a struct's return. -/
theorem part_end {S : Nat → Prop} {w w2 w5 W : World} {H : Hd} {x : St} {p : Prt} {A : Option Addr} {c : Nat} (m : SI S w H x) (m2 : SI S w2 H (shows x)) (f2 : Fr [H.g] w w2) (f : Fr [] w2 w5) (own : w5.ownsRow 0 5 1 (.slice A p.d.length c) p.d.length (byts p.d)) (fb : ∀ b, (Value.slice A p.d.length c).ownBlock = some b → w2.heap.size ≤ b)
    (hr : w.heap.size < w2.heap.size) (f6 : Fr [w.heap.size] w5 W) : PartPost S w H (shows x) p (.returned (agP p (.slice A p.d.length c))) W := by
  obtain ⟨S', e, by5, m5⟩ := m2.pubd f own fb
  have hz := f2.size
  have hnS : ¬ S' w.heap.size := fun hs => by
    rcases e.2 _ hs with h | h
    · have := HP.pub' m.hp _ h; omega
    · omega
  have hO : ∀ y ∈ [w.heap.size], ¬ S' y := fun y hy => by simp at hy; subst hy; exact hnS
  have hne : ∀ y ∈ H.own, y ≠ w.heap.size := fun y hy => by have := m.lt y hy; omega
  have hmem : ∀ {y}, (y = H.g ∨ y = H.gw ∨ y = H.gc ∨ y = H.gh ∨ y ∈ ob H.kv ∨ y ∈ ob H.bv ∨ y ∈ ob H.uv) → y ∉ [w.heap.size] := fun {y} hy => by
    simp
    exact hne y (by simp only [Hd.own, List.mem_cons, List.mem_append]; rcases hy with h | h | h | h | h | h | h <;> simp [h])
  refine ⟨S', A, c, rfl, ext_up e hz, by5.fr f6 hO, ⟨m5.blk.fr f6 (hmem (by simp)), Blk.fr m5.win f6 (hmem (by simp)), Blk.fr m5.clk f6 (hmem (by simp)), m5.hp.ext' f6 (Ext.refl w5 S') hO (fun y hy => hmem (by rcases List.mem_cons.1 hy with h | h <;> simp [h])) (fun b hb => Nat.lt_of_lt_of_le (HP.pub' m5.hp b hb) f6.size),
    own_fr m5.buf f6 (fun b hb => hmem (by simp [mem_ob.2 hb])), own_fr m5.unr f6 (fun b hb => hmem (by simp [mem_ob.2 hb])), m5.nS, m5.bu⟩, (f2.trans (f.mono (by simp)) (fun y hy => .inl hy)).trans f6 (fun y hy => .inr (by simp at hy; omega))⟩
end Go.Proofs.Ytmgdbbbdhkfdmaa

namespace Go.Proofs.Ytmgdbbbdhkfdmaa
set_option maxRecDepth 100000
open Go.RowKit Go.Deep

theorem keep2 {O : List Nat} {w w' : World} {p q : Addr} {u v : Value} (F : Fr O w w') (a0 : w.cell? p = some u) (a1 : w.cell? q = some v) (h0 : p.block ∉ O) (h1 : q.block ∉ O) : w'.cell? p = some u ∧ w'.cell? q = some v :=
  ⟨(F.cell (World.block_lt_of_cell? w _ a0) h0).trans a0, (F.cell (World.block_lt_of_cell? w _ a1) h1).trans a1⟩
set_option maxHeartbeats 4000000 in
theorem part_si {S : Nat → Prop} {w : World} {H : Hd} {x : St} (m : SI S w H x) (hi : Inv x.heap) (hu : x.unread.length ≤ 100000) (f a : Int) (hf : f = 0 ∨ f = 4 ∨ f = 8) (h0 : 0 ≤ a) (h1 : a ≤ 4611686018427387904) (dv : Value) (d : List Int) (T : Nat → Prop) (hd : Byt T w dv d) (hT : ∀ b, T b → b ≠ H.g) (hl : d.length ≤ 1000000) :
    Calls Try.prog 33 #[ptr H.g, .int .i64 f, .int .i64 a, dv] w (PartPost S w H (shows x) (partV x (2 + f) a d)) := by
  obtain ⟨dA, dc, rfl, _, _⟩ := hd.form
  have hgl := m.blk.lt
  have f0 : Fr [] w (w.alloc (.cells prt0 27)) := (Fr.refl [] w).alloc _
  have b0 : Blk (w.alloc (.cells prt0 27)) w.heap.size 27 prt0 := Blk.new w _ _
  have m0 := m.fr f0
  have hroom := room_si m0 hi hu
  have M := Lib.hid m
  have M0 := Lib.hid m0
  have HD := Lib.hid hd
  have B0 := Lib.hid b0
  have HI := Lib.hid hi
  have HR := Lib.hid hroom
  have ha : IntKind.i64.wrap (1 + a) = 1 + a := IntWalk.i64_in _ (by omega)
  have hrb := room_bd x
  clear m m0 hd b0 hi hroom
  go_enter Try.func33, Try.ntmps33
  go_wp2_with fail
  refine HR.out.mono ?_
  rintro e w1 ⟨rfl, f1⟩
  have m1 := M0.out.fr f1
  have M1 := Lib.hid m1
  have c1 := scells m1.blk
  have z24 : w1.frozen? ⟨H.g, 24, none⟩ = false := m1.blk.frozen 24
  have hg1 := m1.blk.lt
  have y24 := c1.c24
  have B1 := Lib.hid (B0.out.fr f1 (by simp))
  have hs1 : w.heap.size < w1.heap.size := by have := f1.size; simp at this; omega
  have F1 := Lib.hid (f0.trans f1 (by simp))
  clear m1 f1 f0 c1
  go_upto_region 2 with fail
  have m2 := M1.out.shown (w' := w1)
  have f2 : Fr [H.g] w1 (w1.setCell ⟨H.g, 24, none⟩ (.int .i64 (roomV x))) := (Fr.refl [H.g] w1).setCell (p := ⟨H.g, 24, none⟩) (.inl (by simp)) _
  have b2 := B1.out.fr f2 (by simp; omega)
  have hs2 : w.heap.size < (w1.setCell ⟨H.g, 24, none⟩ (.int .i64 (roomV x))).heap.size := Nat.lt_of_lt_of_le hs1 f2.size
  have F2 : Fr [H.g] w (w1.setCell ⟨H.g, 24, none⟩ (.int .i64 (roomV x))) := (F1.out.mono (by simp)).trans f2 (fun y hy => .inl hy)
  generalize w1.setCell ⟨H.g, 24, none⟩ (.int .i64 (roomV x)) = w2 at *
  have c2 := scells m2.blk
  have c13 := c2.c13
  have c24 := c2.c24
  have HD2 := Lib.hid (HD.out.fr F2 (fun y hy hs => by simp at hy; subst hy; exact hT _ hs rfl))
  have hrs : (shows x).shown = roomV x := rfl
  have his : (shows x).isn = x.isn := rfl
  rw [his] at c13
  rw [hrs] at c24
  have M2 := Lib.hid m2
  have B2 := Lib.hid b2
  have FF2 := Lib.hid F2
  have HAw : Hid (∀ W, Fr [] w2 W → Calls Try.prog 55 #[ptr H.g] W fun e w' => e = .returned (.int .u32 (awaitedV x)) ∧ Fr [] W w') := Lib.hid (fun W fW => by have h := awaited_si (x := shows x) (M2.out.fr fW) HI.out; exact h)
  have HCl : Hid (∀ W, Fr [] w2 W → Calls Try.prog 44 #[.slice dA d.length dc] W _) := Lib.hid (fun W fW => cloneB_any W (HD2.out.fr fW (by simp)) hl)
  have hw1 := wrap_add32 x.isn (1 + a)
  have hw2 : IntKind.u16.wrap (roomV x) = roomV x := by rw [wrap16]; omega
  have hb0 : bits BinOp.or IntKind.i64 2 0 = 2 := by decide
  have hb4 : bits BinOp.or IntKind.i64 2 4 = 6 := by decide
  have hb8 : bits BinOp.or IntKind.i64 2 8 = 10 := by decide
  clear m2 c2 b2 F2 f2 z24 y24 M0 M1 HR B0 B1 hs1 F1 hg1 hrb hrs his HD hT
  have SEE : Hid (∀ W, Fr [] w2 W → W.cell? ⟨H.g, 13, none⟩ = some (.int .u32 x.isn) ∧ W.cell? ⟨H.g, 24, none⟩ = some (.int .i64 (roomV x))) := Lib.hid (fun W fW => ⟨fr_cell fW c13, fr_cell fW c24⟩)
  generalize hrvx : roomV x = rv at *
  generalize hawx : awaitedV x = aw at *
  have n1 : H.g ≠ w.heap.size := by omega
  have NR : Hid (H.g ∉ [w.heap.size]) := Lib.hid (by simpa using n1)
  obtain ⟨z0, z1, z2, z3, z4⟩ := free5 B2.out
  obtain ⟨y0, y1, y2, y3, y4⟩ := cells5 B2.out
  go_cut [] (fun wx => ∃ (w5 : World) (A : Option Addr) (c : Nat), Fr [] w2 w5 ∧ w5.ownsRow 0 5 1 (.slice A d.length c) d.length (byts d) ∧ (∀ b, (Value.slice A d.length c).ownBlock = some b → w2.heap.size ≤ b) ∧ Fr [w.heap.size] w5 wx ∧ Blk wx w.heap.size 27 #[.int .i64 (2 + f), .int .u32 (add32 x.isn (1 + a)), .int .u32 aw, .int .u16 rv, .slice A d.length c])
  case first =>
    rcases hf with rfl | rfl | rfl
    all_goals
      go_region_held3 (fun w' => w'.cell? ⟨H.g, 13, none⟩ = some (.int .u32 x.isn) ∧ w'.cell? ⟨H.g, 24, none⟩ = some (.int .i64 rv))
        (first
          | (with_reducible exact keep2 (fr5 (b := w.heap.size) (Fr.refl [w.heap.size] w5) (Or.inl (by simp)) _ _ _ _ _) s0 s1 NR.out NR.out)
          | (with_reducible exact SEE.out _ f5)
          | (with_reducible exact SEE.out _ f4)
          | (with_reducible exact SEE.out _ f3)
          | (with_reducible exact SEE.out _ (Fr.refl [] w2).drew)
          | go_keep)
        (first
          | (go_at_call 55; refine (HAw.out _ (Fr.refl [] w2).drew).mono ?_; rintro e w3 ⟨rfl, f3'⟩; have f3 : Fr [] w2 w3 := (Fr.refl [] w2).drew.trans f3' (by simp); clear f3')
          | (go_at_call 44; refine (HCl.out _ f3).mono ?_; rintro e w5 ⟨A5, c5, rfl, own5, f5', fb5⟩; have f5 : Fr [] w2 w5 := f3.trans f5' (by simp); have fb : ∀ b, (Value.slice A5 d.length c5).ownBlock = some b → w2.heap.size ≤ b := fun b hb => Nat.le_trans f3.size (fb5 b hb); have b5 := B2.out.fr f5 (by simp); obtain ⟨p0, p1, p2, p3, p4⟩ := cells5 b5; obtain ⟨q0, q1, q2, q3, q4⟩ := free5 b5; obtain ⟨s0, s1⟩ := SEE.out _ f5; have O5 := Lib.hid own5; have FB := Lib.hid fb; have B5 := Lib.hid b5; clear own5 f5' fb5 fb b5)
          | (go_at_call 44; refine (HCl.out _ (Fr.refl [] w2).drew).mono ?_; rintro e w4 ⟨A5, c5, rfl, own4, f4', fb4⟩; have f4 : Fr [] w2 w4 := (Fr.refl [] w2).drew.trans f4' (by simp); have O4 := Lib.hid own4; have FB4 := Lib.hid fb4; clear f4' own4 fb4)
          | (go_at_call 55; refine (HAw.out _ f4).mono ?_; rintro e w5 ⟨rfl, f5'⟩; have f5 : Fr [] w2 w5 := f4.trans f5' (by simp); have own5 := own_fr O4.out f5' (by simp); have b5 := B2.out.fr f5 (by simp); obtain ⟨p0, p1, p2, p3, p4⟩ := cells5 b5; obtain ⟨q0, q1, q2, q3, q4⟩ := free5 b5; obtain ⟨s0, s1⟩ := SEE.out _ f5; have O5 := Lib.hid own5; have FB : Hid (∀ b, (Value.slice A5 d.length c5).ownBlock = some b → w2.heap.size ≤ b) := FB4; have B5 := Lib.hid b5; clear own5 f5' b5))
      all_goals
        go_wp2_with fail
        go_meet
        exact ⟨w5, A5, c5, f5, O5.out, FB.out, fr5 (b := w.heap.size) (Fr.refl [w.heap.size] w5) (Or.inl (by simp)) _ _ _ _ _, set5 B5.out _ _ _ _ _⟩
  case rest =>
    obtain ⟨w5, A5, c5, f5, own5, fb5, f6, B6⟩ := hcut
    have hpost := part_end (p := partV x (2 + f) a d) M.out M2.out FF2.out f5 own5 fb5 hs2 f6
    obtain ⟨r0, r1, r2, r3, r4⟩ := cells5 B6
    have HPost := Lib.hid hpost
    have HV : Hid (agP (partV x (2 + f) a d) (.slice A5 d.length c5) = .agg #[.int .i64 (2 + f), .int .u32 (add32 x.isn (1 + a)), .int .u32 aw, .int .u16 rv, .slice A5 d.length c5]) := Lib.hid (by unfold partV; rw [hawx, hrvx])
    clear f5 own5 fb5 f6 hpost y0 y1 y2 y3 y4 z0 z1 z2 z3 z4
    go_wp2_with fail
    refine bodyPost_ret (v := .agg #[.int .i64 (2 + f), .int .u32 (add32 x.isn (1 + a)), .int .u32 aw, .int .u16 rv, .slice A5 d.length c5]) (by simp [results, Try.results33, go_sem, r0, r1, r2, r3, r4]) rfl ?_
    rw [← HV.out]
    exact HPost.out
end Go.Proofs.Ytmgdbbbdhkfdmaa

namespace Go.Proofs.Ytmgdbbbdhkfdmaa
set_option maxRecDepth 100000
open Go.RowKit Go.Deep

@[go_sem] theorem field_win0 (a b c d : Int) (W : World) : (Instr.field 32 (.agg #[.int .i64 a, .int .i64 b, .int .i64 c, .int .i64 d]) 0).run Try.prog W = .ok (.int .i64 a) W := by
  unfold Instr.field
  go_simp
  rfl
@[go_sem] theorem field_win1 (a b c d : Int) (W : World) : (Instr.field 32 (.agg #[.int .i64 a, .int .i64 b, .int .i64 c, .int .i64 d]) 1).run Try.prog W = .ok (.int .i64 b) W := by
  unfold Instr.field
  go_simp
  rfl
@[go_sem] theorem field_win2 (a b c d : Int) (W : World) : (Instr.field 32 (.agg #[.int .i64 a, .int .i64 b, .int .i64 c, .int .i64 d]) 2).run Try.prog W = .ok (.int .i64 c) W := by
  unfold Instr.field
  go_simp
  rfl
@[go_sem] theorem field_win3 (a b c d : Int) (W : World) : (Instr.field 32 (.agg #[.int .i64 a, .int .i64 b, .int .i64 c, .int .i64 d]) 3).run Try.prog W = .ok (.int .i64 d) W := by
  unfold Instr.field
  go_simp
  rfl
theorem SI.far {S : Nat → Prop} {w w' : World} {H : Hd} {x : St} {r : Nat} (m : SI S w H x) (f : Fr [r] w w') (hS : ¬ S r) (hn : ∀ y ∈ H.own, y ≠ r) : SI S w' H x := by
  have hO : ∀ y ∈ [r], ¬ S y := fun y hy => by simp at hy; subst hy; exact hS
  have hmem : ∀ {y}, (y = H.g ∨ y = H.gw ∨ y = H.gc ∨ y = H.gh ∨ y ∈ ob H.kv ∨ y ∈ ob H.bv ∨ y ∈ ob H.uv) → y ∉ [r] := fun {y} hy => by
    simp
    exact hn y (by simp only [Hd.own, List.mem_cons, List.mem_append]; rcases hy with h | h | h | h | h | h | h <;> simp [h])
  exact ⟨m.blk.fr f (hmem (by simp)), Blk.fr m.win f (hmem (by simp)), Blk.fr m.clk f (hmem (by simp)), m.hp.ext' f (Ext.refl w S) hO (fun y hy => hmem (by rcases List.mem_cons.1 hy with h | h <;> simp [h])) (fun b hb => Nat.lt_of_lt_of_le (HP.pub' m.hp b hb) f.size),
    own_fr m.buf f (fun b hb => hmem (by simp [mem_ob.2 hb])), own_fr m.unr f (fun b hb => hmem (by simp [mem_ob.2 hb])), m.nS, m.bu⟩
/-- A part is laid into the result's block. -/
theorem res_end {S : Nat → Prop} {w W0 w5 W : World} {H : Hd} {x x' : St} {p : Prt} {v : Value} (m : SI S w H x) (f0 : Fr [] w W0) (hr : w.heap.size < W0.heap.size) (h : PartPost S W0 H x' p (.returned v) w5) (f6 : Fr [w.heap.size] w5 W) : PartPost S w H x' p (.returned v) W := by
  obtain ⟨S', A, c, e, x5, by5, m5, f5⟩ := h
  have hnS : ¬ S' w.heap.size := fun hs => by
    rcases x5.2 _ hs with h | h
    · have := HP.pub' m.hp _ h; omega
    · omega
  exact ⟨S', A, c, e, ext_up x5 f0.size, by5.fr f6 (fun y hy => by simp at hy; subst hy; exact hnS), m5.far f6 hnS (fun y hy => by have := m.lt y hy; omega), ((f0.mono (by simp)).trans f5 (fun y hy => .inl hy)).trans f6 (fun y hy => .inr (by simp at hy; omega))⟩
def AnsRel (S : Nat → Prop) (w w0 : World) (H : Hd) (x' : St) (p : Prt) (wx : World) : Prop :=
  ∃ (w5 : World) (A : Option Addr) (c : Nat), PartPost S w0 H x' p (.returned (agP p (.slice A p.d.length c))) w5 ∧ Fr [w.heap.size] w5 wx ∧ Blk wx w.heap.size 27 #[.int .i64 p.flags, .int .u32 p.seq, .int .u32 p.ack, .int .u16 p.win, .slice A p.d.length c]
set_option maxHeartbeats 4000000 in
theorem answer_si {S : Nat → Prop} {w : World} {H : Hd} {x : St} (m : SI S w H x) (hi : Inv x.heap) (hu : x.unread.length ≤ 100000) (h0 : 0 ≤ x.win.m) (h1 : x.win.m ≤ 4611686018427387000) :
    Calls Try.prog 41 #[ptr H.g] w (PartPost S w H (shows x) (answerV x)) := by
  have hgl := m.blk.lt
  have ho := one_bd x.fin
  have f0 : Fr [] w (w.alloc (.cells prt0 27)) := (Fr.refl [] w).alloc _
  have b0 : Blk (w.alloc (.cells prt0 27)) w.heap.size 27 prt0 := Blk.new w _ _
  have hr : w.heap.size < (w.alloc (.cells prt0 27)).heap.size := by simp
  have m0 := m.fr f0
  have ha : IntKind.i64.wrap (x.win.m + one x.fin) = x.win.m + one x.fin := IntWalk.i64_in _ (by omega)
  have hpt : ∀ W, Fr [] (w.alloc (.cells prt0 27)) W → Calls Try.prog 33 #[ptr H.g, .int .i64 0, .int .i64 (x.win.m + one x.fin), .slice none 0 0] W (PartPost S W H (shows x) (answerV x)) := fun W fW => part_si (m0.fr fW) hi hu 0 _ (.inl rfl) (by omega) (by omega) _ [] (fun _ => False) Byt.nil (by simp) (by simp)
  go_enter Try.func41, Try.ntmps41
  go_upto_region 1 with fail
  generalize w.alloc (.cells prt0 27) = w0 at *
  have c := scells m0.blk
  have c16 := c.c16
  have c19 := c.c19
  have HPt := Lib.hid hpt
  have HSt : Hid (∀ W, Fr [] w0 W → Calls Try.prog 34 #[ptr H.gw] W _) := Lib.hid (fun W fW => Win.state_win H.gw x.win W (Blk.fr m0.win fW (by simp)))
  have HFl : Hid (∀ W, Calls Try.prog 35 #[.bool x.fin] W _) := Lib.hid (fun W => flag_any x.fin W)
  have SEE : Hid (∀ W, Fr [] w0 W → W.cell? ⟨H.g, 16, none⟩ = some (ptr H.gw) ∧ W.cell? ⟨H.g, 19, none⟩ = some (.bool x.fin)) := Lib.hid (fun W fW => ⟨fr_cell fW c16, fr_cell fW c19⟩)
  have NR : Hid (H.g ∉ [w.heap.size]) := Lib.hid (by simp; omega)
  have M := Lib.hid m
  have F0 := Lib.hid f0
  have HRr := Lib.hid hr
  have B0 := Lib.hid b0
  generalize answerV x = p at *
  obtain ⟨z0, z1, z2, z3, z4⟩ := free5 b0
  obtain ⟨y0, y1, y2, y3, y4⟩ := cells5 b0
  have n1 : H.g ≠ w.heap.size := by omega
  clear m m0 f0 hr b0 hpt c
  go_cut [] (fun wx => AnsRel S w w0 H (shows x) p wx)
  case first =>
    go_region_held3 (fun w' => w'.cell? ⟨H.g, 16, none⟩ = some (ptr H.gw) ∧ w'.cell? ⟨H.g, 19, none⟩ = some (.bool x.fin))
      (first
        | (with_reducible exact keep2 (fr5 (b := w.heap.size) (Fr.refl [w.heap.size] w5) (Or.inl (by simp)) _ _ _ _ _) s0 s1 NR.out NR.out)
        | (with_reducible exact ⟨s0, s1⟩)
        | (with_reducible exact SEE.out _ f3)
        | (with_reducible exact SEE.out _ (Fr.refl [] w0).drew)
        | go_keep)
      (first
        | (go_at_call 34; refine (HSt.out _ (Fr.refl [] w0).drew).mono ?_; rintro e w3 ⟨rfl, f3'⟩; have f3 : Fr [] w0 w3 := (Fr.refl [] w0).drew.trans f3' (by simp); clear f3')
        | (go_at_call 35; refine (HFl.out _).mono ?_; rintro e w4 ⟨rfl, rfl⟩)
        | (go_at_call 33; refine (HPt.out _ f3).mono ?_; rintro e w5 ⟨S5, A5, c5, rfl, x5, by5, m5, f5⟩; have sc := scells m5.blk; have s0 : w5.cell? ⟨H.g, 16, none⟩ = some (ptr H.gw) := sc.c16; have s1 : w5.cell? ⟨H.g, 19, none⟩ = some (.bool x.fin) := sc.c19; have hb5 := (B0.out.fr f3 (by simp)).fr f5 (by simp; omega); obtain ⟨p0, p1, p2, p3, p4⟩ := cells5 hb5; obtain ⟨q0, q1, q2, q3, q4⟩ := free5 hb5; have B5 := Lib.hid hb5; have X5 := Lib.hid x5; have Y5 := Lib.hid by5; have M5 := Lib.hid m5; have FF5 := Lib.hid f5; clear sc hb5 x5 by5 m5 f5))
    all_goals
      go_wp2_with fail
      go_meet
      exact ⟨w5, A5, c5, ⟨S5, A5, c5, rfl, ext_up X5.out f3.size, Y5.out, M5.out, (f3.mono (by simp)).trans FF5.out (fun y hy => .inl hy)⟩, fr5 (b := w.heap.size) (Fr.refl [w.heap.size] w5) (Or.inl (by simp)) _ _ _ _ _, set5 B5.out _ _ _ _ _⟩
  case rest =>
    obtain ⟨w5, A5, c5, hp5, f6, B6⟩ := hcut
    have hpost := res_end M.out F0.out HRr.out hp5 f6
    obtain ⟨r0, r1, r2, r3, r4⟩ := cells5 B6
    have HPost := Lib.hid hpost
    clear hp5 f6 hpost y0 y1 y2 y3 y4 z0 z1 z2 z3 z4
    go_wp2_with fail
    refine bodyPost_ret (v := .agg #[.int .i64 p.flags, .int .u32 p.seq, .int .u32 p.ack, .int .u16 p.win, .slice A5 p.d.length c5]) (by simp [results, Try.results41, go_sem, r0, r1, r2, r3, r4]) rfl ?_
    exact HPost.out
end Go.Proofs.Ytmgdbbbdhkfdmaa

namespace Go.Proofs.Ytmgdbbbdhkfdmaa
set_option maxRecDepth 100000
open Go.RowKit Go.Deep

def BegRel (w2 : World) (v : Array Value) (s3 : Value) (wx : World) : Prop := ∃ b3, s3 = ptr b3 ∧ w2.heap.size ≤ b3 ∧ Blk wx b3 27 v ∧ Fr [] w2 wx
theorem beg_end {S : Nat → Prop} {w w2 W : World} {H : Hd} {x : St} {p : Prt} (m : SI S w H x) (m2 : SI S w2 H (shows x)) (f2 : Fr [H.g] w w2) (f : Fr [w.heap.size] w2 W) (hd : p.d = []) : PartPost S w H (shows x) p (.returned (agP p (.slice none 0 0))) W := by
  have hnS : ¬ S w.heap.size := fun hs => by have := HP.pub' m.hp _ hs; omega
  refine ⟨S, none, 0, by rw [hd]; rfl, Ext.refl w S, by rw [hd]; exact Byt.nil, m2.far f hnS (fun y hy => by have := m.lt y hy; omega), f2.trans f (fun y hy => .inr (by simp at hy; omega))⟩
set_option maxHeartbeats 4000000 in
theorem begins_si {S : Nat → Prop} {w : World} {H : Hd} {x : St} (m : SI S w H x) (hi : Inv x.heap) (hu : x.unread.length ≤ 100000) :
    Calls Try.prog 39 #[ptr H.g] w (PartPost S w H (shows x) (beginsV x)) := by
  have hgl := m.blk.lt
  have f0 : Fr [] w (w.alloc (.cells prt0 27)) := (Fr.refl [] w).alloc _
  have b0 : Blk (w.alloc (.cells prt0 27)) w.heap.size 27 prt0 := Blk.new w _ _
  have m0 := m.fr f0
  have hroom := room_si m0 hi hu
  have M := Lib.hid m
  have M0 := Lib.hid m0
  have B0 := Lib.hid b0
  have HI := Lib.hid hi
  have HR := Lib.hid hroom
  have hrb := room_bd x
  clear m m0 b0 hi hroom
  go_enter Try.func39, Try.ntmps39
  go_wp2_with fail
  refine HR.out.mono ?_
  rintro e w1 ⟨rfl, f1⟩
  have m1 := M0.out.fr f1
  have M1 := Lib.hid m1
  have c1 := scells m1.blk
  have z24 : w1.frozen? ⟨H.g, 24, none⟩ = false := m1.blk.frozen 24
  have hg1 := m1.blk.lt
  have y24 := c1.c24
  have B1 := Lib.hid (B0.out.fr f1 (by simp))
  have hs1 : w.heap.size < w1.heap.size := by have := f1.size; simp at this; omega
  have F1 := Lib.hid (f0.trans f1 (by simp))
  clear m1 f1 f0 c1
  go_upto_region 2 with fail
  have m2 := M1.out.shown (w' := w1)
  have f2 : Fr [H.g] w1 (w1.setCell ⟨H.g, 24, none⟩ (.int .i64 (roomV x))) := (Fr.refl [H.g] w1).setCell (p := ⟨H.g, 24, none⟩) (.inl (by simp)) _
  have b2 := B1.out.fr f2 (by simp; omega)
  have hs2 : w.heap.size < (w1.setCell ⟨H.g, 24, none⟩ (.int .i64 (roomV x))).heap.size := Nat.lt_of_lt_of_le hs1 f2.size
  have F2 : Fr [H.g] w (w1.setCell ⟨H.g, 24, none⟩ (.int .i64 (roomV x))) := (F1.out.mono (by simp)).trans f2 (fun y hy => .inl hy)
  generalize w1.setCell ⟨H.g, 24, none⟩ (.int .i64 (roomV x)) = w2 at *
  have c2 := scells m2.blk
  have c0 : w2.cell? ⟨H.g, 0, none⟩ = some (.int .i64 x.at_) := c2.c0
  have c13 : w2.cell? ⟨H.g, 13, none⟩ = some (.int .u32 x.isn) := c2.c13
  have c24 : w2.cell? ⟨H.g, 24, none⟩ = some (.int .i64 (roomV x)) := c2.c24
  have M2 := Lib.hid m2
  have B2 := Lib.hid b2
  have FF2 := Lib.hid F2
  have hw2 : IntKind.u16.wrap (roomV x) = roomV x := by rw [wrap16]; omega
  have hmod : roomV x % 65536 = roomV x := by omega
  have HAw : Hid (∀ W, Fr [] w2 W → Calls Try.prog 55 #[ptr H.g] W fun e w' => e = .returned (.int .u32 (awaitedV x)) ∧ Fr [] W w') := Lib.hid (fun W fW => by have h := awaited_si (x := shows x) (M2.out.fr fW) HI.out; exact h)
  have hpd : (beginsV x).d = [] := by unfold beginsV; split <;> rfl
  have HPD := Lib.hid hpd
  have hbv : beginsV x = if x.at_ = 3 then ⟨3, x.isn, awaitedV x, roomV x, []⟩ else ⟨1, x.isn, 0, roomV x, []⟩ := rfl
  have HBV := Lib.hid hbv
  have hg2 := m2.blk.lt
  clear m2 c2 b2 F2 f2 z24 y24 M0 M1 HR B0 B1 hs1 F1 hg1 hrb hpd hbv
  generalize hrv : roomV x = rv at *
  generalize hav : awaitedV x = av at *
  have SEE : Hid (∀ W, Fr [] w2 W → W.cell? ⟨H.g, 13, none⟩ = some (.int .u32 x.isn) ∧ W.cell? ⟨H.g, 24, none⟩ = some (.int .i64 rv)) := Lib.hid (fun W fW => ⟨fr_cell fW c13, fr_cell fW c24⟩)
  go_cut [3] (fun s3 wx => BegRel w2 #[.int .i64 1, .int .u32 x.isn, .int .u32 0, .int .u16 rv, .slice none 0 0] s3 wx)
  case first =>
    go_region_held3 (fun w' => w'.cell? ⟨H.g, 13, none⟩ = some (.int .u32 x.isn) ∧ w'.cell? ⟨H.g, 24, none⟩ = some (.int .i64 rv))
      (first
        | (with_reducible exact SEE.out _ (Fr.refl [] w2).drew)
        | (with_reducible exact SEE.out _ ((Fr.refl [] w2).drew.alloc _))
        | go_keep)
      (fail)
    all_goals
      go_wp2_with fail
      go_meet
      exact ⟨w2.heap.size, rfl, Nat.le_refl _, by first | exact Blk.new w2 _ _ | exact Blk.new w2.drew _ _ | exact (Blk.new w2 _ _).drew, by first | exact (Fr.refl [] w2).alloc _ | exact (Fr.refl [] w2).drew.alloc _ | exact ((Fr.refl [] w2).alloc _).drew⟩
  case rest =>
    obtain ⟨b3, rfl, hb3, B3, f3⟩ := hcut
    generalize wc = wx at *
    have d0 := fr_cell f3 c0
    have n3 : w.heap.size ≠ b3 := by omega
    have n3' : b3 ≠ w.heap.size := by omega
    have n4 : H.g ≠ b3 := by omega
    have ng : H.g ≠ w.heap.size := by omega
    clear c0 c13 c24 SEE hw2 hmod
    by_cases h3 : x.at_ = 3
    · go_wp2_with fail
      refine (HAw.out _ f3).mono ?_
      rintro e w4 ⟨rfl, f4⟩
      have f24 : Fr [] w2 w4 := f3.trans f4 (by simp)
      have b34 := B3.fr f4 (by simp)
      have br4 := B2.out.fr f24 (by simp)
      obtain ⟨y0, y1, y2, y3, y4⟩ := cells5 b34
      obtain ⟨z0, z1, z2, z3, z4⟩ := free5 b34
      obtain ⟨p0, p1, p2, p3, p4⟩ := cells5 br4
      obtain ⟨q0, q1, q2, q3, q4⟩ := free5 br4
      have HB := Lib.hid br4
      have F24 := Lib.hid f24
      have hb := HBV.out
      rw [if_pos h3] at hb
      have HB' := Lib.hid hb
      clear f3 f4 f24 b34 br4 B3 d0 hb
      go_wp2_with fail
      have f5 : Fr [w.heap.size] w2 ((w4.setCell ⟨b3, 0, none⟩ (.int .i64 3)).setCell ⟨b3, 2, none⟩ (.int .u32 av)) := (((F24.out.mono (by simp)).setCell (p := ⟨b3, 0, none⟩) (.inr hb3) _).setCell (p := ⟨b3, 2, none⟩) (.inr hb3) _)
      have b5 := (HB.out.far (p := ⟨b3, 0, none⟩) n3 (.int .i64 3)).far (p := ⟨b3, 2, none⟩) n3 (.int .u32 av)
      have B6 := set5 b5 (.int .i64 3) (.int .u32 x.isn) (.int .u32 av) (.int .u16 rv) (.slice none 0 0)
      have f6 := fr5 (b := w.heap.size) f5 (.inl (by simp)) (.int .i64 3) (.int .u32 x.isn) (.int .u32 av) (.int .u16 rv) (.slice none 0 0)
      have hpost := beg_end (p := beginsV x) M.out M2.out FF2.out f6 HPD.out
      rw [HB'.out] at hpost
      obtain ⟨r0, r1, r2, r3, r4⟩ := cells5 B6
      refine bodyPost_ret (v := .agg #[.int .i64 3, .int .u32 x.isn, .int .u32 av, .int .u16 rv, .slice none 0 0]) (by simp [results, Try.results39, go_sem, r0, r1, r2, r3, r4]) rfl ?_
      rw [HB'.out]
      exact hpost
    · obtain ⟨y0, y1, y2, y3, y4⟩ := cells5 B3
      have br4 := B2.out.fr f3 (by simp)
      obtain ⟨p0, p1, p2, p3, p4⟩ := cells5 br4
      obtain ⟨q0, q1, q2, q3, q4⟩ := free5 br4
      have HB := Lib.hid br4
      have F24 := Lib.hid f3
      have hb := HBV.out
      rw [if_neg h3] at hb
      have HB' := Lib.hid hb
      clear f3 br4 B3 hb
      go_wp2_with fail
      have B6 := set5 HB.out (.int .i64 1) (.int .u32 x.isn) (.int .u32 0) (.int .u16 rv) (.slice none 0 0)
      have f6 := fr5 (b := w.heap.size) (F24.out.mono (O' := [w.heap.size]) (by simp)) (.inl (by simp)) (.int .i64 1) (.int .u32 x.isn) (.int .u32 0) (.int .u16 rv) (.slice none 0 0)
      have hpost := beg_end (p := beginsV x) M.out M2.out FF2.out f6 HPD.out
      rw [HB'.out] at hpost
      obtain ⟨r0, r1, r2, r3, r4⟩ := cells5 B6
      refine bodyPost_ret (v := .agg #[.int .i64 1, .int .u32 x.isn, .int .u32 0, .int .u16 rv, .slice none 0 0]) (by simp [results, Try.results39, go_sem, r0, r1, r2, r3, r4]) rfl ?_
      rw [HB'.out]
      exact hpost
end Go.Proofs.Ytmgdbbbdhkfdmaa

namespace Go.Proofs.Ytmgdbbbdhkfdmaa
set_option maxRecDepth 100000
open Go.RowKit Go.Deep

section
variable {S : Nat → Prop} {w w' : World} {H : Hd} {x : St}
theorem SI.setc (m : SI S w H x) {c : Rto.Ck} (f : Fr [H.gc] w w') (C : Rto.Clk w' H.gc c) : SI S w' H { x with clk := c } := by
  have hO : ∀ y ∈ [H.gc], ¬ S y := fun y hy => by simp at hy; subst hy; exact m.nS _ (.inr (.inr (.inl rfl)))
  have nk : ∀ y ∈ H.gh :: ob H.kv, y ≠ H.gc := by
    obtain ⟨ev, L, n⟩ := m.hp
    intro y hy
    rcases List.mem_cons.1 hy with rfl | hy
    · exact blk_ne n.blk m.clk (by decide)
    · rintro rfl; exact own_ne n.kp.own m.clk (by decide) (mem_ob.1 hy)
  exact ⟨m.blk.fr f (by simpa using fun e => m.ne_c e.symm), Blk.fr m.win f (by simpa using blk_ne m.win m.clk (by decide)), C, m.hp.ext' f (Ext.refl w S) hO (fun y hy => by simpa using nk y hy) (fun b hb => Nat.lt_of_lt_of_le (HP.pub' m.hp b hb) f.size),
    own_fr m.buf f (fun b hb => by simp; rintro rfl; exact own_ne m.buf m.clk (by decide) hb), own_fr m.unr f (fun b hb => by simp; rintro rfl; exact own_ne m.unr m.clk (by decide) hb), m.nS, m.bu⟩
theorem SI.setw (m : SI S w H x) {v : Win.Wn} (f : Fr [H.gw] w w') (C : Win.Win w' H.gw v true) (ha : v.a = x.win.a) : SI S w' H { x with win := v } := by
  have hO : ∀ y ∈ [H.gw], ¬ S y := fun y hy => by simp at hy; subst hy; exact m.nS _ (.inr (.inl rfl))
  have nk : ∀ y ∈ H.gh :: ob H.kv, y ≠ H.gw := by
    obtain ⟨ev, L, n⟩ := m.hp
    intro y hy
    rcases List.mem_cons.1 hy with rfl | hy
    · exact blk_ne n.blk m.win (by decide)
    · rintro rfl; exact own_ne n.kp.own m.win (by decide) (mem_ob.1 hy)
  have hb : bufV { x with win := v } = bufV x := by unfold bufV; rw [ha]
  exact ⟨m.blk.fr f (by simpa using fun e => m.ne_w e.symm), C, Blk.fr m.clk f (by simpa using blk_ne m.clk m.win (by decide)), m.hp.ext' f (Ext.refl w S) hO (fun y hy => by simpa using nk y hy) (fun b hb => Nat.lt_of_lt_of_le (HP.pub' m.hp b hb) f.size),
    by rw [hb]; exact own_fr m.buf f (fun b hb => by simp; rintro rfl; exact own_ne m.buf m.win (by decide) hb), own_fr m.unr f (fun b hb => by simp; rintro rfl; exact own_ne m.unr m.win (by decide) hb), m.nS, m.bu⟩
end
set_option maxHeartbeats 4000000 in
theorem waits_si {S : Nat → Prop} {w : World} {H : Hd} {x : St} (m : SI S w H x) : Calls Try.prog 62 #[ptr H.g] w fun e w' => e = .returned (.bool (waitsV x)) ∧ Fr [] w w' := by
  have c := scells m.blk
  have c0 := c.c0
  have c7 := c.c7
  have c16 := c.c16
  have c19 := c.c19
  have c20 := c.c20
  have hst := fun W (f : Fr [] w W) => Win.state_win H.gw x.win W (Blk.fr m.win f (by simp))
  have hz := fun W (f : Fr [] w W) => Win.zero_fr H.gw x.win W (Blk.fr m.win f (by simp))
  have hv : waitsV x = (x.at_ == 2 || (x.at_ == 3 || (x.at_ == 4 && (decide (x.win.a < x.win.m) || (x.fin && !x.acked || Win.zeroV x.win && decide (x.win.a < x.all.length)))))) := rfl
  generalize waitsV x = r at *
  generalize x.fin = fi at *
  generalize x.acked = ac at *
  generalize Win.zeroV x.win = zv at *
  generalize x.at_ = at_ at *
  have HSt := Lib.hid hst
  have HZ := Lib.hid hz
  clear hst hz c m
  by_cases h2 : at_ = 2
  · subst h2
    obtain rfl : r = true := by rw [hv]; rfl
    clear hv
    go_enter Try.func62, Try.ntmps62
    go_wp2_with fail
    refine (HSt.out _ (Fr.refl [] w)).mono ?_
    rintro e w1 ⟨rfl, f1⟩
    have d0 := fr_cell f1 c0
    have hl := World.block_lt_of_cell? w1 _ d0
    go_wp2_with fail
    go_ret
    exact ⟨rfl, f1.alloc _⟩
  by_cases h3 : at_ = 3
  · subst h3
    obtain rfl : r = true := by rw [hv]; rfl
    clear hv
    go_enter Try.func62, Try.ntmps62
    go_wp2_with fail
    refine (HSt.out _ (Fr.refl [] w)).mono ?_
    rintro e w1 ⟨rfl, f1⟩
    have d0 := fr_cell f1 c0
    have hl := World.block_lt_of_cell? w1 _ d0
    go_wp2_with fail
    go_ret
    exact ⟨rfl, f1.alloc _⟩
  by_cases h4 : at_ = 4
  · subst h4
    have hv' : r = (decide (x.win.a < x.win.m) || (fi && !ac || zv && decide (x.win.a < x.all.length))) := by rw [hv]; rfl
    have HV := Lib.hid hv'
    clear hv hv'
    go_enter Try.func62, Try.ntmps62
    go_wp2_with fail
    refine (HSt.out _ (Fr.refl [] w)).mono ?_
    rintro e w1 ⟨rfl, f1⟩
    have d0 := fr_cell f1 c0
    have hl := World.block_lt_of_cell? w1 _ d0
    go_upto_region 7 with fail
    have f2 : Fr [] w (w1.alloc (.cells #[.int .i64 x.win.a, .int .i64 x.win.s, .int .i64 x.win.m, .int .i64 x.win.l] 32)) := f1.alloc _
    have b2 := Blk.new w1 32 #[.int .i64 x.win.a, .int .i64 x.win.s, .int .i64 x.win.m, .int .i64 x.win.l]
    generalize w1.alloc (.cells #[.int .i64 x.win.a, .int .i64 x.win.s, .int .i64 x.win.m, .int .i64 x.win.l] 32) = w2 at *
    obtain ⟨p0, p1, p2, p3⟩ : w2.cell? ⟨w1.heap.size, 0, none⟩ = some (.int .i64 x.win.a) ∧ w2.cell? ⟨w1.heap.size, 1, none⟩ = some (.int .i64 x.win.s) ∧ w2.cell? ⟨w1.heap.size, 2, none⟩ = some (.int .i64 x.win.m) ∧ w2.cell? ⟨w1.heap.size, 3, none⟩ = some (.int .i64 x.win.l) := ⟨by simpa using b2.cell 0, by simpa using b2.cell 1, by simpa using b2.cell 2, by simpa using b2.cell 3⟩
    have y0 := Grew.cell p0
    have y2 := Grew.cell p2
    have y7 := Grew.cell (fr_cell f2 c7)
    have y16 := Grew.cell (fr_cell f2 c16)
    have y19 := Grew.cell (fr_cell f2 c19)
    have y20 := Grew.cell (fr_cell f2 c20)
    have hzg : ∀ p : Grew w2, Calls Try.prog 81 #[ptr H.gw] p.W fun e w' => e = .returned (.bool zv) ∧ ∃ q : Grew w2, w' = q.W := fun p => grew_call (HZ.out _ (f2.trans p.fr (by simp)))
    have HZG := Lib.hid hzg
    have F2 := Lib.hid f2
    clear b2 p0 p1 p2 p3 hzg f1 f2 c0 c7 c16 c19 c20 d0 hl HZ HSt h2 h3
    by_cases hA : x.win.a < x.win.m
    · obtain rfl : r = true := by rw [HV.out]; simp [hA]
      refine wp_region_grew (by kernel_rfl) (by kernel_rfl) ?_
      repeat (go_big_quiet_step ((go_at_call 81; exact HZG.out _)))
      refine wpQuiet_nil ?_
      intro W1 f1
      go_wp2_with fail
      go_ret
      exact ⟨rfl, F2.out.trans f1 (by simp)⟩
    · have hA' : decide (x.win.a < x.win.m) = false := by simpa using hA
      rcases Bool.eq_false_or_eq_true fi with rfl | rfl <;> rcases Bool.eq_false_or_eq_true ac with rfl | rfl <;> rcases Bool.eq_false_or_eq_true zv with rfl | rfl
      all_goals
        have hr := HV.out
        rw [hA'] at hr
        simp only [Bool.not_true, Bool.not_false, Bool.and_true, Bool.true_and, Bool.and_false, Bool.false_and, Bool.or_false, Bool.false_or, Bool.true_or, Bool.or_true] at hr
        subst hr
        refine wp_region_grew (by kernel_rfl) (by kernel_rfl) ?_
        repeat (go_big_quiet_step ((go_at_call 81; exact HZG.out _)))
        refine wpQuiet_nil ?_
        intro W1 f1
        go_wp2_with fail
        go_ret
        exact ⟨rfl, F2.out.trans f1 (by simp)⟩
  · obtain rfl : r = false := by rw [hv]; simp [h2, h3, h4]
    clear hv
    go_enter Try.func62, Try.ntmps62
    go_wp2_with fail
    refine (HSt.out _ (Fr.refl [] w)).mono ?_
    rintro e w1 ⟨rfl, f1⟩
    have d0 := fr_cell f1 c0
    have hl := World.block_lt_of_cell? w1 _ d0
    go_wp2_with fail
    go_ret
    exact ⟨rfl, f1.alloc _⟩
end Go.Proofs.Ytmgdbbbdhkfdmaa

namespace Go.Proofs.Ytmgdbbbdhkfdmaa
set_option maxRecDepth 100000
open Go.RowKit Go.Deep

theorem done_si {S : Nat → Prop} {w : World} {H : Hd} {x : St} (m : SI S w H x) (b : Bool) : Calls Try.prog 30 #[ptr H.g, .bool b] w fun e w' => e = .returned (.tuple #[]) ∧ SI S w' H (doneV x b) ∧ Fr [H.g] w w' := by
  have c := scells m.blk
  have c0 := c.c0
  have c1 := c.c1
  have z0 := m.blk.frozen 0
  have z1 := m.blk.frozen 1
  have M := Lib.hid m
  clear m c
  go_enter Try.func30, Try.ntmps30
  go_wp2_with fail
  have f : Fr [H.g] w ((w.setCell ⟨H.g, 0, none⟩ (.int .i64 5)).setCell ⟨H.g, 1, none⟩ (.bool b)) := ((Fr.refl [H.g] w).setCell (p := ⟨H.g, 0, none⟩) (.inl (by simp)) _).setCell (p := ⟨H.g, 1, none⟩) (.inl (by simp)) _
  have B : Blk ((w.setCell ⟨H.g, 0, none⟩ (.int .i64 5)).setCell ⟨H.g, 1, none⟩ (.bool b)) H.g 39 (arS (doneV x b) H) := by simpa [doneV] using (M.out.blk.set_ 0 (.int .i64 5)).set_ 1 (.bool b)
  go_end0
  exact ⟨rfl, M.out.set f B rfl rfl rfl rfl rfl, f⟩
theorem ack0 (v : Win.Wn) (h : 0 ≤ v.a) (r : Int) : (Win.ackV v 0 r).1.a = v.a := by
  unfold Win.ackV
  (repeat' split) <;> first | rfl | (simp; omega)
set_option maxHeartbeats 2000000 in
theorem opens_si {S : Nat → Prop} {w : World} {H : Hd} {x : St} (m : SI S w H x) (r B : Int) (hB : B ≤ 1000000000) (hw : Win.Inv B x.win) (hc : Rto.Inv x.clk) (r0 : 0 ≤ r) (r1 : r < 65536) :
    Calls Try.prog 53 #[ptr H.g, .int .u16 r] w fun e w' => e = .returned (.tuple #[]) ∧ SI S w' H (opensV x r) ∧ Fr [H.g, H.gw, H.gc] w w' := by
  have c := scells m.blk
  have c0 := c.c0
  have c16 := c.c16
  have c17 := c.c17
  have z0 := m.blk.frozen 0
  have M := Lib.hid m
  have hw' := hw
  have HW := Lib.hid hw'
  have HC := Lib.hid hc
  obtain ⟨i0, _⟩ := hw
  have NW := Lib.hid m.ne_w
  have NC := Lib.hid m.ne_c
  have NWC := Lib.hid (blk_ne m.win m.clk (by decide))
  have hcv : IntKind.i64.wrap r = r := IntWalk.i64_in _ (by omega)
  clear m c hw' hc
  go_enter Try.func53, Try.ntmps53
  go_wp2_with fail
  have f1 : Fr [H.g] w (w.setCell ⟨H.g, 0, none⟩ (.int .i64 4)) := (Fr.refl [H.g] w).setCell (p := ⟨H.g, 0, none⟩) (.inl (by simp)) _
  have B1 : Blk (w.setCell ⟨H.g, 0, none⟩ (.int .i64 4)) H.g 39 (arS { x with at_ := 4 } H) := by simpa using M.out.blk.set_ 0 (.int .i64 4)
  have m1 := M.out.set (x' := { x with at_ := 4 }) f1 B1 rfl rfl rfl rfl rfl
  generalize w.setCell ⟨H.g, 0, none⟩ (.int .i64 4) = w1 at *
  refine (Win.ack_win H.gw x.win 0 r w1 B hB HW.out m1.win).mono ?_
  rintro e w2 ⟨rfl, f2, W2⟩
  have m2 := m1.setw f2 W2 (ack0 _ i0 r)
  have d := scells m2.blk
  have d17 := d.c17
  have M2 := Lib.hid m2
  have F12 := Lib.hid ((f1.mono (O' := [H.g, H.gw, H.gc]) (by simp)).trans (f2.mono (O' := [H.g, H.gw, H.gc]) (by simp)) (fun y hy => .inl hy))
  clear m1 f1 B1 f2 W2 m2 d c0 c16 c17
  go_wp2_with fail
  refine (Rto.stop_clk H.gc x.clk w2 M2.out.clk HC.out).mono ?_
  rintro e w3 ⟨rfl, f3, C3⟩
  have m3 := M2.out.setc f3 C3
  have F3 := F12.out.trans (f3.mono (O' := [H.g, H.gw, H.gc]) (by simp)) (fun y hy => .inl hy)
  have M3 := Lib.hid m3
  clear m3 f3 C3 d17
  go_wp2_with fail
  go_end0
  exact ⟨rfl, M3.out, F3⟩
set_option maxHeartbeats 2000000 in
theorem rests_si {S : Nat → Prop} {w : World} {H : Hd} {x : St} (m : SI S w H x) (hc : Rto.Inv x.clk) (A : Option Addr) (n k : Nat) :
    Calls Try.prog 31 #[ptr H.g, .slice A n k] w fun e w' => e = .returned (.slice A n k) ∧ SI S w' H (restsV x) ∧ Fr [H.gc] w w' := by
  have hwt := waits_si m
  have M := Lib.hid m
  have HWt := Lib.hid hwt
  have HC := Lib.hid hc
  have hv : restsV x = if waitsV x && !x.clk.rn then { x with clk := (Rto.startV x.clk x.now).1 } else if !waitsV x && x.clk.rn then { x with clk := Rto.stopV x.clk } else x := rfl
  generalize restsV x = y at *
  generalize waitsV x = wv at *
  clear m hwt hc
  have HV := Lib.hid hv
  clear hv
  go_enter Try.func31, Try.ntmps31
  go_wp2_with fail
  refine HWt.out.mono ?_
  rintro e w1 ⟨rfl, f1⟩
  have m1 := M.out.fr f1
  have d := scells m1.blk
  have d17 := d.c17
  have d21 := d.c21
  have M1 := Lib.hid m1
  have F1 := Lib.hid f1
  clear m1 d f1
  go_wp2_with fail
  refine (Rto.runs_clk H.gc x.clk w1 M1.out.clk HC.out).mono ?_
  rintro e w2 ⟨rfl, rfl⟩
  rcases Bool.eq_false_or_eq_true wv with rfl | rfl <;> rcases Bool.eq_false_or_eq_true x.clk.rn with hr | hr
  all_goals
    have hv := HV.out
    rw [hr] at hv ⊢
    simp only [Bool.not_true, Bool.not_false, Bool.and_true, Bool.true_and, Bool.and_false, Bool.false_and, if_true, if_false, Bool.false_eq_true, reduceIte] at hv
    subst hv
  · go_wp2_with fail
    go_ret
    exact ⟨rfl, M1.out, F1.out.mono (by simp)⟩
  · go_upto_region 4 with fail
    go_region_held3 (fun w' => w'.cell? ⟨H.g, 17, none⟩ = some (ptr H.gc) ∧ w'.cell? ⟨H.g, 21, none⟩ = some (.int .i64 x.now))
      (first
        | (with_reducible exact ⟨s0, s1⟩)
        | go_keep)
      (first
        | (go_at_call 64; refine (Rto.start_clk H.gc x.clk x.now _ (Blk.fr M1.out.clk (Fr.refl [] w1).drew (by simp)) HC.out).mono ?_; rintro e w3 ⟨rfl, f3, C3⟩; have f3' : Fr [H.gc] w1 w3 := (Fr.refl [H.gc] w1).drew.trans f3 (fun y hy => .inl hy); have m3 := M1.out.setc f3' C3; have d3 := scells m3.blk; have s0 : w3.cell? ⟨H.g, 17, none⟩ = some (ptr H.gc) := d3.c17; have s1 : w3.cell? ⟨H.g, 21, none⟩ = some (.int .i64 x.now) := d3.c21; have M3 := Lib.hid m3; have F3 := Lib.hid f3'; clear m3 d3 f3 f3' C3))
    go_wp2_with fail
    go_ret
    exact ⟨rfl, M3.out, (F1.out.mono (by simp)).trans F3.out (fun y hy => .inl hy)⟩
  · go_wp2_with fail
    refine (Rto.stop_clk H.gc x.clk w1 M1.out.clk HC.out).mono ?_
    rintro e w3 ⟨rfl, f3, C3⟩
    have M3 := Lib.hid (M1.out.setc f3 C3)
    have F3 := Lib.hid f3
    clear f3 C3
    go_wp2_with fail
    go_ret
    exact ⟨rfl, M3.out, (F1.out.mono (by simp)).trans F3.out (fun y hy => .inl hy)⟩
  · go_wp2_with fail
    go_ret
    exact ⟨rfl, M1.out, F1.out.mono (by simp)⟩
end Go.Proofs.Ytmgdbbbdhkfdmaa

namespace Go.Proofs.Ytmgdbbbdhkfdmaa
set_option maxRecDepth 100000
open Go.RowKit Go.Deep

/-- The cells of a row of parts: each one's numbers and its bytes' slice. -/
def prs : List (Prt × Value) → List Value
  | [] => []
  | x :: L => .int .i64 x.1.flags :: .int .u32 x.1.seq :: .int .u32 x.1.ack :: .int .u16 x.1.win :: x.2 :: prs L
theorem prs_len : ∀ L, (prs L).length = L.length * 5
  | [] => rfl
  | x :: L => by simp only [prs, List.length_cons, prs_len L]; omega
theorem prs_app : ∀ L M, prs L ++ prs M = prs (L ++ M)
  | [], _ => rfl
  | x :: L, M => by simp only [prs, List.cons_append, prs_app L M]
/-- A list of parts in memory. -/
structure Pr (S : Nat → Prop) (w : World) (v : Value) (L : List (Prt × Value)) : Prop where
  own : w.ownsRow 0 27 5 v L.length (prs L)
  byt : ∀ x ∈ L, Byt S w x.2 x.1.d
theorem Pr.nil {S : Nat → Prop} {w : World} : Pr S w (.slice none 0 0) [] := ⟨World.ownsRow_nil _ 0 27 5, by simp⟩
theorem Pr.one {S : Nat → Prop} {w : World} {v : Value} {L : List (Prt × Value)} (h : Pr S w v L) : ∀ u ∈ prs L, u.oneCell' = true := by
  have hb := h.byt
  clear h
  induction L with
  | nil => simp [prs]
  | cons x L ih =>
    intro u hu
    simp only [prs, List.mem_cons] at hu
    rcases hu with rfl | rfl | rfl | rfl | rfl | hu
    · rfl
    · rfl
    · rfl
    · rfl
    · exact (hb x (by simp)).one
    · exact ih (fun y hy => hb y (List.mem_cons_of_mem _ hy)) u hu
theorem Pr.fr {S S' : Nat → Prop} {w w' : World} {v : Value} {L : List (Prt × Value)} {O : List Nat} (h : Pr S w v L) (f : Fr O w w') (hO : ∀ x ∈ O, ¬ S x) (hn : ∀ b ∈ ob v, b ∉ O) (hS : ∀ b, S b → S' b) : Pr S' w' v L :=
  ⟨own_fr h.own f (fun b hb => hn b (mem_ob.2 hb)), fun x hx => ((h.byt x hx).fr f hO).mono hS⟩
/-- A row of one. -/
theorem pr_one {S : Nat → Prop} {w : World} {p : Prt} {dv : Value} (h : Byt S w dv p.d) :
    Pr S (w.alloc (.cells #[.int .i64 p.flags, .int .u32 p.seq, .int .u32 p.ack, .int .u16 p.win, dv] 27)) (.slice (some ⟨w.heap.size, 0, none⟩) 1 1) [(p, dv)] :=
  ⟨⟨by simp [prs], .inr ⟨w.heap.size, 1, #[.int .i64 p.flags, .int .u32 p.seq, .int .u32 p.ack, .int .u16 p.win, dv], rfl, Nat.zero_le _, Blk.new w 27 _, by simp, by simp [maxLen], by simp [prs]⟩⟩, fun x hx => by
    simp at hx
    subst hx
    exact h.fr ((Fr.refl [] w).alloc _) (by simp)⟩
structure Hd.like (w : World) (H H' : Hd) : Prop where
  g : H'.g = H.g
  gw : H'.gw = H.gw
  gc : H'.gc = H.gc
  gh : H'.gh = H.gh
  own : ∀ b ∈ H'.own, b ∈ H.own ∨ w.heap.size ≤ b
theorem Hd.like.rfl' (w : World) (H : Hd) : Hd.like w H H := ⟨rfl, rfl, rfl, rfl, fun b h => .inl h⟩
/-- What a call leaves: the end and the parts that it tells. -/
def LPost (S : Nat → Prop) (w : World) (H : Hd) (r : St × List Prt) (e : Ending) (w' : World) : Prop :=
  ∃ S' H' v L, e = .returned v ∧ L.map (·.1) = r.2 ∧ Ext w S S' ∧ Hd.like w H H' ∧ SI S' w' H' r.1 ∧ Pr S' w' v L ∧ (∀ b ∈ ob v, w.heap.size ≤ b ∧ ¬ S' b) ∧ Fr H.own w w'
theorem lpost_nil {S : Nat → Prop} {w w' : World} {H : Hd} {x' : St} (m : SI S w' H x') (f : Fr H.own w w') : LPost S w H (x', []) (.returned (.slice none 0 0)) w' :=
  ⟨S, H, _, [], rfl, rfl, Ext.refl w S, Hd.like.rfl' w H, m, Pr.nil, by simp [ob, Value.ownBlock], f⟩
/-- One part, in a row of its own. -/
theorem lpost_one {S S0 : Nat → Prop} {w w0 w1 : World} {H H0 : Hd} {x' : St} {p : Prt} {A : Option Addr} {c : Nat} {v : Value} (e0 : Ext w S S0) (hl : Hd.like w H H0) (f0 : Fr H.own w w0) (h : PartPost S0 w0 H0 x' p (.returned v) w1) (hv : v = agP p (.slice A p.d.length c)) :
    LPost S w H (x', [p]) (.returned (.slice (some ⟨w1.heap.size, 0, none⟩) 1 1)) (w1.alloc (.cells #[.int .i64 p.flags, .int .u32 p.seq, .int .u32 p.ack, .int .u16 p.win, .slice A p.d.length c] 27)) := by
  obtain ⟨S1, A1, c1, e, x1, by1, m1, f1⟩ := h
  subst hv
  injection e with e
  injection e with e
  have ea : (Value.slice A p.d.length c) = .slice A1 p.d.length c1 := by simpa using congrArg (fun a => a.toList.getD 4 undef) e
  rw [ea]
  have hg : H.g ∈ H.own := by simp [Hd.own]
  have hz0 := f0.size
  have hz1 := f1.size
  have hp : ∀ b, S1 b → b < w1.heap.size := HP.pub' m1.hp
  refine ⟨S1, H0, _, [(p, .slice A1 p.d.length c1)], rfl, rfl, e0.trans hz0 x1, hl, m1.fr ((Fr.refl [] w1).alloc _), pr_one by1, ?_, (f0.trans (f1.mono (O' := H.own) (fun y hy => by simp at hy; subst hy; rw [hl.g]; exact hg)) (fun y hy => .inl hy)).alloc _⟩
  intro b hb
  simp [ob, Value.ownBlock] at hb
  subst hb
  exact ⟨by omega, fun hs => by have := hp _ hs; omega⟩
abbrev arP (p : Prt) (dv : Value) : Array Value := #[.int .i64 p.flags, .int .u32 p.seq, .int .u32 p.ack, .int .u16 p.win, dv]
set_option maxHeartbeats 4000000 in
theorem listen_si {S : Nat → Prop} {w : World} {H : Hd} {x : St} (m : SI S w H x) (hi : Inv x.heap) (hu : x.unread.length ≤ 100000) (p : Prt) (A : Option Addr) (c : Nat) :
    Calls Try.prog 21 #[ptr H.g, agP p (.slice A p.d.length c)] w (LPost S w H (listenV x p)) := by
  obtain ⟨fl, sq, ak, wi, d⟩ := p
  dsimp only
  have hgl := m.blk.lt
  have f0 : Fr [] w (w.alloc (.cells (arP ⟨fl, sq, ak, wi, d⟩ (.slice A d.length c)) 27)) := (Fr.refl [] w).alloc _
  have b0 : Blk (w.alloc (.cells (arP ⟨fl, sq, ak, wi, d⟩ (.slice A d.length c)) 27)) w.heap.size 27 (arP ⟨fl, sq, ak, wi, d⟩ (.slice A d.length c)) := Blk.new w _ _
  have m0 := m.fr f0
  have M := Lib.hid m
  by_cases hfl : fl = 1
  · have hv : listenV x ⟨fl, sq, ak, wi, d⟩ = (shows { x with peer := sq, at_ := 3 }, [beginsV { x with peer := sq, at_ := 3 }]) := by unfold listenV; rw [if_pos hfl]
    rw [hv]
    clear hv
    subst hfl
    go_enter Try.func21, Try.ntmps21
    go_upto_region 1 with fail
    generalize w.alloc (.cells (arP ⟨1, sq, ak, wi, d⟩ (.slice A d.length c)) 27) = w0 at *
    obtain ⟨y0, y1, y2, y3, y4⟩ := cells5 b0
    have cs := scells m0.blk
    have c0 := cs.c0
    have c2 := cs.c2
    have z0 := m0.blk.frozen 0
    have z2 := m0.blk.frozen 2
    have ng : H.g ≠ w.heap.size := by omega
    have M0 := Lib.hid m0
    have F0 := Lib.hid f0
    clear m m0 f0 b0 cs
    go_wp2_with fail
    have f1 : Fr [H.g] w0 ((w0.setCell ⟨H.g, 2, none⟩ (.int .u32 sq)).setCell ⟨H.g, 0, none⟩ (.int .i64 3)) := ((Fr.refl [H.g] w0).setCell (p := ⟨H.g, 2, none⟩) (.inl (by simp)) _).setCell (p := ⟨H.g, 0, none⟩) (.inl (by simp)) _
    have B1 : Blk ((w0.setCell ⟨H.g, 2, none⟩ (.int .u32 sq)).setCell ⟨H.g, 0, none⟩ (.int .i64 3)) H.g 39 (arS { x with peer := sq, at_ := 3 } H) := by simpa using (M0.out.blk.set_ 2 (.int .u32 sq)).set_ 0 (.int .i64 3)
    have m1 := M0.out.set (x' := { x with peer := sq, at_ := 3 }) f1 B1 rfl rfl rfl rfl rfl
    generalize (w0.setCell ⟨H.g, 2, none⟩ (.int .u32 sq)).setCell ⟨H.g, 0, none⟩ (.int .i64 3) = w1 at *
    refine (begins_si m1 hi hu).mono ?_
    rintro e w2 ⟨S2, A2, c2', rfl, x2, by2, m2, f2⟩
    have hp := lpost_one (Ext.refl w S) (Hd.like.rfl' w H) ((F0.out.mono (by simp)).trans (f1.mono (O' := H.own) (by simp [Hd.own])) (fun y hy => .inl hy)) (⟨S2, A2, c2', rfl, x2, by2, m2, f2⟩ : PartPost S w1 H _ _ (.returned (agP (beginsV { x with peer := sq, at_ := 3 }) (.slice A2 _ c2'))) w2) rfl
    have HP := Lib.hid hp
    clear hp x2 by2 m2 f2 m1 f1 B1 c0 c2 z0 z2 y0 y1 y2 y3 y4
    go_wp2_with fail
    go_ret
    exact HP.out
  · have hv : listenV x ⟨fl, sq, ak, wi, d⟩ = (x, []) := by unfold listenV; rw [if_neg hfl]
    rw [hv]
    clear hv
    go_enter Try.func21, Try.ntmps21
    go_wp2_with fail
    go_ret
    exact lpost_nil (M.out.fr f0) (f0.mono (by simp))
end Go.Proofs.Ytmgdbbbdhkfdmaa

namespace Go.Proofs.Ytmgdbbbdhkfdmaa
set_option maxRecDepth 100000
open Go.RowKit Go.Deep

theorem place_any (a b near : Int) (w : World) (h2 : -9223372036854775808 ≤ near) (h3 : near ≤ 9223372036854775807) : Calls Try.prog 75 #[.int .u32 a, .int .u32 b, .int .i64 near] w fun e w' => e = .returned (.int .i64 (placeV a b near)) ∧ Fr [] w w' := by
  have hn := Sne.near_walk ((a - b - 1) % 4294967296) near w (by omega) (by omega) h2 h3
  have he : placeV a b near = (Sne.nearV ((a - b - 1) % 4294967296) near).1 := rfl
  rw [he]
  have hq : ((a - b) % 4294967296 - 1) % 4294967296 = (a - b - 1) % 4294967296 := by omega
  generalize (Sne.nearV ((a - b - 1) % 4294967296) near).1 = v at *
  generalize (Sne.nearV ((a - b - 1) % 4294967296) near).2 = v2 at *
  generalize (a - b - 1) % 4294967296 = q at *
  have HN := Lib.hid hn
  clear hn
  go_enter Try.func75, Try.ntmps75
  go_wp2_with fail
  refine HN.out.mono ?_
  rintro e w1 ⟨rfl, f1⟩
  go_wp2_with fail
  go_ret
  exact ⟨rfl, f1⟩
theorem ack_facts {B : Int} {v : Win.Wn} (h : Win.Inv B v) (u r : Int) : v.a ≤ (Win.ackV v u r).1.a ∧ (Win.ackV v u r).1.a = v.a + (Win.ackV v u r).2.1 ∧ (Win.ackV v u r).1.a ≤ v.m ∨ ((Win.ackV v u r).1 = v ∧ (Win.ackV v u r).2.1 = 0) := by
  have hb := Win.Inv.bd h
  unfold Win.ackV
  (repeat' split)
  · exact .inr ⟨rfl, rfl⟩
  · exact .inr ⟨rfl, rfl⟩
  · exact .inr ⟨rfl, rfl⟩
  · left
    simp only []
    omega
/-- The window heard, the buffer cut. -/
theorem SI.acked {S : Nat → Prop} {w w1 w2 : World} {H : Hd} {x : St} {v : Win.Wn} {A : Option Addr} {c k : Nat} (m : SI S w H x) (f : Fr [H.gw] w w1) (C : Win.Win w1 H.gw v true) (hk : v.a.toNat = x.win.a.toNat + k)
    (f2 : Fr [] w1 w2) (own : w2.ownsRow 0 5 1 (.slice A ((bufV x).drop k).length c) ((bufV x).drop k).length (byts ((bufV x).drop k))) (fb : ∀ b, (Value.slice A ((bufV x).drop k).length c).ownBlock = some b → w1.heap.size ≤ b) :
    SI S (w2.setCell ⟨H.g, 14, none⟩ (.slice A ((bufV x).drop k).length c)) ⟨H.g, H.gw, H.gc, H.gh, .slice A ((bufV x).drop k).length c, H.uv, H.kv⟩ { x with win := v } ∧ Fr [H.g, H.gw] w (w2.setCell ⟨H.g, 14, none⟩ (.slice A ((bufV x).drop k).length c)) := by
  have hO : ∀ y ∈ [H.gw], ¬ S y := fun y hy => by simp at hy; subst hy; exact m.nS _ (.inr (.inl rfl))
  have nk : ∀ y ∈ H.gh :: ob H.kv, y ≠ H.gw := by
    obtain ⟨ev, L, n⟩ := m.hp
    intro y hy
    rcases List.mem_cons.1 hy with rfl | hy
    · exact blk_ne n.blk m.win (by decide)
    · rintro rfl; exact own_ne n.kp.own m.win (by decide) (mem_ob.1 hy)
  have hz := f.size
  have f3 : Fr [H.g] w2 (w2.setCell ⟨H.g, 14, none⟩ (.slice A ((bufV x).drop k).length c)) := (Fr.refl [H.g] w2).setCell (p := ⟨H.g, 14, none⟩) (.inl (by simp)) _
  have F : Fr [H.g, H.gw] w (w2.setCell ⟨H.g, 14, none⟩ (.slice A ((bufV x).drop k).length c)) := ((f.mono (by simp)).trans (f2.mono (O' := [H.g, H.gw]) (by simp)) (fun y hy => .inl hy)).trans (f3.mono (O' := [H.g, H.gw]) (by simp)) (fun y hy => .inl hy)
  have hO3 : ∀ y ∈ [H.g], ¬ S y := fun y hy => by simp at hy; subst hy; exact m.nS _ (.inl rfl)
  have B2 : Blk w2 H.g 39 (arS x H) := (m.blk.fr f (by simpa using fun e => m.ne_w e.symm)).fr f2 (by simp)
  have hbuf : bufV { x with win := v } = (bufV x).drop k := by unfold bufV; rw [List.drop_drop, hk]
  have hun := own_fr (own_fr m.unr f (fun b hb => by simp; rintro rfl; exact own_ne m.unr m.win (by decide) hb)) f2 (by simp)
  have hp1 := m.hp.ext' f (Ext.refl w S) hO (fun y hy => by simpa using nk y hy) (fun b hb => Nat.lt_of_lt_of_le (HP.pub' m.hp b hb) f.size)
  have hp2 := hp1.ext' f2 (Ext.refl w1 S) (by simp) (by simp) (fun b hb => Nat.lt_of_lt_of_le (HP.pub' hp1 b hb) f2.size)
  have hgx : ∀ y ∈ H.gh :: ob H.kv, y ∉ [H.g] := fun y hy => by simpa using m.ne_h y hy
  have hpub : ∀ b, S b → b < w.heap.size := HP.pub' m.hp
  refine ⟨⟨by simpa using B2.set_ 14 (.slice A ((bufV x).drop k).length c), Blk.fr (Blk.fr C f2 (by simp)) f3 (by simpa using m.ne_w), Blk.fr (Blk.fr (Blk.fr m.clk f (by simpa using blk_ne m.clk m.win (by decide))) f2 (by simp)) f3 (by simpa using m.ne_c),
    hp2.ext' f3 (Ext.refl w2 S) hO3 hgx (fun b hb => Nat.lt_of_lt_of_le (HP.pub' hp2 b hb) f3.size), by rw [hbuf]; exact own_fr own f3 (fun b hb => by simp; rintro rfl; exact own_ne own B2 (by decide) hb), own_fr hun f3 (fun b hb => by simpa using m.ne_u b (mem_ob.2 hb)), fun y hy => ?_, fun y hy hu => ?_⟩, F⟩
  · rcases hy with h | h | h | h | h
    · exact m.nS y (.inl h)
    · exact m.nS y (.inr (.inl h))
    · exact m.nS y (.inr (.inr (.inl h)))
    · have h1 := fb y (mem_ob.1 h)
      intro hs
      have := hpub y hs
      omega
    · exact m.nS y (.inr (.inr (.inr (.inr h))))
  · have h1 := fb y (mem_ob.1 hy)
    have h2 := own_lt m.unr (mem_ob.1 hu)
    omega
end Go.Proofs.Ytmgdbbbdhkfdmaa
