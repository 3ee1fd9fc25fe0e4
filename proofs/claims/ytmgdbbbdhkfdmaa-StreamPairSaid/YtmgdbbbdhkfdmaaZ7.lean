import Derived.Test.YtmgdbbbdhkfdmaaZ4
import Derived.Test.YtmgdbbbdhkfdmaaZ5
import Derived.Deep.DeepCutAuto
import Derived.Deep.RegionLaw
import Derived.Test.YtmgdbbbdhkfdmaaZ6
set_option linter.unusedSimpArgs false
set_option linter.unusedVariables false
namespace Go.Proofs.Ytmgdbbbdhkfdmaa
set_option maxRecDepth 100000
open Go.RowKit

/-- Between two rounds of the range over what is ready. -/
structure DJ (S : Nat → Prop) (w : World) (g hx hb ob' l D : Nat) (m : Int) (kv0 ev : Value) (rec : Loop) (n : Int) (kv : Value) (L : List (Pc × Value)) (out : List Int) (W : World) : Prop where
  fr : Fr [g] w W
  seen : Seen S g hb m n kv ev L W
  hbx : Blk W hx 37 #[ptr g]
  hbb : Blk W hb 37 #[ptr g]
  orow : ∃ oA oc, Blk W ob' 25 #[.slice oA out.length oc] ∧ W.ownsRow 0 5 1 (.slice oA out.length oc) out.length (byts out) ∧ (∀ b, (Value.slice oA out.length oc).ownBlock = some b → w.heap.size ≤ b ∧ ¬ S b)
  offk : ∀ b, kv.ownBlock = some b → ¬ S b ∧ (kv0.ownBlock = some b ∨ w.heap.size ≤ b)
  olen : out.length ≤ 64 * (65 - L.length)
  rcd : W.heap[l]? = some (.loop rec)
  dfr : W.heap[D]? = some (.deferred (some []))
  old : w.heap.size ≤ ob' ∧ w.heap.size ≤ l ∧ D ≠ l
  off : ¬ S l ∧ ¬ S ob'
section
variable {S : Nat → Prop} {w W W' : World} {g hx hb ob' l D : Nat} {m n : Int} {kv0 kv ev : Value} {rec rec' : Loop} {L : List (Pc × Value)} {out : List Int} {O : List Nat}
theorem fr_at {o : Obj} {k : Nat} (h : W.heap[k]? = some o) (f : Fr O W W') (hk : k ∉ O) : W'.heap[k]? = some o := (f.block k (Array.getElem?_eq_some_iff.1 h).1 hk).trans h
theorem blk_loop {t : TypeId} {cs : Array Value} {k : Nat} (h : W.heap[k]? = some (.loop rec)) (b : Blk W g t cs) : g ≠ k := by
  rintro rfl
  unfold Blk at b
  rw [h] at b
  cases b
theorem blk_def {t : TypeId} {cs : Array Value} {k : Nat} {x : Option (List Deferred)} (h : W.heap[k]? = some (.deferred x)) (b : Blk W g t cs) : g ≠ k := by
  rintro rfl
  unfold Blk at b
  rw [h] at b
  cases b
theorem own_loop {e : TypeId} {size k n : Nat} {v : Value} {xs : List Value} {b : Nat} (h : W.heap[k]? = some (.loop rec)) (o : W.ownsRow 0 e size v n xs) (hb : v.ownBlock = some b) : b ≠ k := by
  rcases o.2 with ⟨rfl, _⟩ | ⟨g, cap, cur, rfl, _, hg, _⟩
  · simp [Value.ownBlock] at hb
  · have : g = b := by simpa [Value.ownBlock] using hb
    subst this
    exact blk_loop (g := g) (t := e) (cs := cur) h hg
theorem own_def {e : TypeId} {size k n : Nat} {v : Value} {xs : List Value} {b : Nat} {x : Option (List Deferred)} (h : W.heap[k]? = some (.deferred x)) (o : W.ownsRow 0 e size v n xs) (hb : v.ownBlock = some b) : b ≠ k := by
  rcases o.2 with ⟨rfl, _⟩ | ⟨g, cap, cur, rfl, _, hg, _⟩
  · simp [Value.ownBlock] at hb
  · have : g = b := by simpa [Value.ownBlock] using hb
    subst this
    exact blk_def (g := g) (t := e) (cs := cur) h hg
theorem fr_put (W : World) (l : Nat) (o : Obj) : Fr [l] W (W.putObj l o) :=
  ⟨rfl, rfl, rfl, by simp, fun i hi hn => World.putObj_heap_other (by simpa using hn)⟩

theorem Seen.fr (h : Seen S g hb m n kv ev L W) (b : Blk W hb 37 #[ptr g]) (f : Fr O W W') (hg : g ∉ O) (hh : hb ∉ O) (hS : ∀ x ∈ O, ¬ S x) (hk : ∀ b, kv.ownBlock = some b → b ∉ O) : Seen S g hb m n kv ev L W' :=
  ⟨h.blk.fr f hg, h.kp.fr f hS hk, (b.fr f hh).cell 0, fun b hb => Nat.lt_of_lt_of_le (h.pub b hb) f.size, h.offg, h.pc, h.n0, h.n1, h.len⟩
theorem DJ.fr0 (j : DJ S w g hx hb ob' l D m kv0 ev rec n kv L out W) (f : Fr [] W W') : DJ S w g hx hb ob' l D m kv0 ev rec n kv L out W' := by
  obtain ⟨oA, oc, o1, o2, o3⟩ := j.orow
  exact ⟨j.fr.trans f (by simp), j.seen.fr j.hbb f (by simp) (by simp) (by simp) (by simp), j.hbx.fr f (by simp), j.hbb.fr f (by simp), ⟨oA, oc, o1.fr f (by simp), own_fr o2 f (by simp), o3⟩, j.offk, j.olen, fr_at j.rcd f (by simp), fr_at j.dfr f (by simp), j.old, j.off⟩
theorem DJ.put (j : DJ S w g hx hb ob' l D m kv0 ev rec n kv L out W) (rec' : Loop) : DJ S w g hx hb ob' l D m kv0 ev rec' n kv L out (W.putObj l (.loop rec')) := by
  obtain ⟨oA, oc, o1, o2, o3⟩ := j.orow
  have f := fr_put W l (.loop rec')
  have hlt : l < W.heap.size := (Array.getElem?_eq_some_iff.1 j.rcd).1
  have hl : w.heap.size ≤ l := j.old.2.1
  refine ⟨j.fr.trans f (by intro x hx; simp at hx; subst hx; exact .inr hl), j.seen.fr j.hbb f ?_ ?_ ?_ ?_, j.hbx.fr f ?_, j.hbb.fr f ?_, ⟨oA, oc, o1.fr f ?_, own_fr o2 f ?_, o3⟩, j.offk, j.olen, World.putObj_heap_same hlt, fr_at j.dfr f (by simpa using j.old.2.2), j.old, j.off⟩
  · simpa using blk_loop j.rcd j.seen.blk
  · simpa using blk_loop j.rcd j.hbb
  · intro x hx hs
    simp at hx
    subst hx
    exact j.off.1 hs
  · intro b hb'
    simpa using own_loop j.rcd j.seen.kp.own hb'
  · simpa using blk_loop j.rcd j.hbx
  · simpa using blk_loop j.rcd j.hbb
  · simpa using blk_loop j.rcd o1
  · intro b hb'
    simpa using own_loop j.rcd o2 hb'
/-- The loop is entered. -/
theorem dj_start {oA : Option Addr} {oc : Nat} (rec : Loop) (hfr : Fr [g] w W) (seen : Seen S g hb m n kv ev L W) (hbx : Blk W hx 37 #[ptr g]) (hbb : Blk W hb 37 #[ptr g])
    (o1 : Blk W ob' 25 #[.slice oA out.length oc]) (o2 : W.ownsRow 0 5 1 (.slice oA out.length oc) out.length (byts out)) (o3 : ∀ b, (Value.slice oA out.length oc).ownBlock = some b → w.heap.size ≤ b ∧ ¬ S b)
    (offk : ∀ b, kv.ownBlock = some b → ¬ S b ∧ (kv0.ownBlock = some b ∨ w.heap.size ≤ b)) (olen : out.length ≤ 64 * (65 - L.length)) (old : w.heap.size ≤ ob') (off : ¬ S ob') :
    DJ S w g hx hb ob' (W.heap.size + 1) W.heap.size m kv0 ev rec n kv L out ((W.alloc (.deferred (some []))).alloc (.loop rec)) := by
  have f : Fr [] W ((W.alloc (.deferred (some []))).alloc (.loop rec)) := ((Fr.refl _ _).alloc _).alloc _
  have hz := hfr.size
  refine ⟨hfr.trans f (by simp), seen.fr hbb f (by simp) (by simp) (by simp) (by simp), hbx.fr f (by simp), hbb.fr f (by simp), ⟨oA, oc, o1.fr f (by simp), own_fr o2 f (by simp), o3⟩, offk, olen, ?_, ?_, ⟨old, by omega, by omega⟩, ⟨fun hs => ?_, off⟩⟩
  · have := World.alloc_heap_new (W.alloc (.deferred (some []))) (.loop rec)
    rwa [World.size_alloc] at this
  · exact (Below.heap_alloc _ _ _ (by simp)).trans (World.alloc_heap_new W _)
  · have := seen.pub _ hs
    omega
/-- The same, out of what stands behind the first piece. -/
theorem tell_start {S S' : Nat → Prop} {w W6 W7 : World} {g : Nat} {kv ev : Value} {h : Hp} {L : List (Pc × Value)} {l : List Int} {A3 : Option Addr} {c3 : Nat} {n1 : Int} (rec : Loop) (m : HPx S w g kv ev h L) (hI : Inv h) (hS1 : ∀ b, S b → S' b) (hS2 : ∀ b, S' b → S b ∨ w.heap.size + 2 ≤ b)
    (f06 : Fr [] w W6) (m6 : HPx S W6 g kv ev h L) (pub6 : ∀ b, S' b → b < W6.heap.size) (hbx6 : Blk W6 w.heap.size 37 #[ptr g]) (bo6 : Blk W6 (w.heap.size + 1) 25 #[.slice none 0 0])
    (f7 : Fr [g] W6 W7) (blk7 : Blk W7 g 115 (hpa h.most n1 kv ev)) (own7 : W7.ownsRow 0 5 1 (.slice A3 l.length c3) l.length (byts l)) (fr7 : ∀ b, (Value.slice A3 l.length c3).ownBlock = some b → W6.heap.size ≤ b ∧ b < W7.heap.size)
    (h0 : 0 ≤ n1) (h1 : n1 ≤ 4611686018427387968) (hl : l.length ≤ 64) :
    DJ S' w g w.heap.size W7.heap.size (w.heap.size + 1) (((W7.setCell ⟨w.heap.size + 1, 0, none⟩ (.slice A3 l.length c3)).alloc (.cells #[ptr g] 37)).heap.size + 1) ((W7.setCell ⟨w.heap.size + 1, 0, none⟩ (.slice A3 l.length c3)).alloc (.cells #[ptr g] 37)).heap.size h.most kv ev rec n1 kv L l
      ((((W7.setCell ⟨w.heap.size + 1, 0, none⟩ (.slice A3 l.length c3)).alloc (.cells #[ptr g] 37)).alloc (.deferred (some []))).alloc (.loop rec)) := by
  have hg := m.blk.lt
  have z6 := f06.size
  have z7 := f7.size
  have hS' : ¬ S' (w.heap.size + 1) := fun hs => by
    rcases hS2 _ hs with h2 | h2
    · have := m.pub _ h2; omega
    · omega
  have hSg : ¬ S' g := fun hs => by
    rcases hS2 _ hs with h2 | h2
    · exact m.offg h2
    · omega
  have e1 := blk_ne bo6 m6.blk (by decide)
  have e2 := blk_ne hbx6 m6.blk (by decide)
  have bo7 := bo6.fr f7 (by simpa using e1)
  have bh7 := hbx6.fr f7 (by simpa using e2)
  have hO7 : ∀ x ∈ [g], ¬ S' x := by intro x hx; simp at hx; subst hx; exact hSg
  have kp7 := (m6.kp.mono hS1).fr f7 hO7 (fun b hb => by simp; rintro rfl; exact own_ne m6.kp.own m6.blk (by decide) hb)
  have fs := (Fr.refl [w.heap.size + 1] W7).setCell (p := ⟨w.heap.size + 1, 0, none⟩) (.inl (by simp)) (.slice A3 l.length c3)
  have hsz8 : (W7.setCell ⟨w.heap.size + 1, 0, none⟩ (.slice A3 l.length c3)).heap.size = W7.heap.size := by simp [World.setCell]
  have bo8 : Blk (W7.setCell ⟨w.heap.size + 1, 0, none⟩ (.slice A3 l.length c3)) (w.heap.size + 1) 25 #[.slice A3 l.length c3] := by simpa using bo7.set_ 0 (.slice A3 l.length c3)
  have bg8 := blk7.fr fs (by simpa using blk_ne blk7 bo7 (by decide))
  have bh8 := bh7.fr fs (by simp)
  have own8 := own_fr own7 fs (fun b hb => by simp; rintro rfl; exact own_ne own7 bo7 (by decide) hb)
  have f8 : Fr [g] w (W7.setCell ⟨w.heap.size + 1, 0, none⟩ (.slice A3 l.length c3)) := ((f06.mono (by simp : ∀ x ∈ ([] : List Nat), x ∈ [g])).trans f7 (fun x hx => .inl hx)).trans fs (by intro x hx; simp at hx; subst hx; exact .inr (by omega))
  have kp8 := kp7.fr fs (by intro x hx; simp at hx; subst hx; exact hS') (fun b hb => by simp; rintro rfl; exact own_ne kp7.own bo7 (by decide) hb)
  have bb9 := Blk.new (W7.setCell ⟨w.heap.size + 1, 0, none⟩ (.slice A3 l.length c3)) 37 #[ptr g]
  rw [hsz8] at bb9
  have fa := (Fr.refl [] (W7.setCell ⟨w.heap.size + 1, 0, none⟩ (.slice A3 l.length c3))).alloc (.cells #[ptr g] 37)
  have hLl : L.length ≤ 64 := by have h2 := hI.len; have h3 := hI.m1; rw [m.len] at h2; omega
  refine dj_start rec (f8.trans fa (by simp)) ⟨bg8.fr fa (by simp), kp8.fr fa (by simp) (by simp), bb9.cell 0, fun b hb => ?_, hSg, fun x hx => hI.pc x.1 (by rw [m.kept]; exact List.mem_map.2 ⟨x, hx, rfl⟩), h0, h1, hLl⟩ (bh8.fr fa (by simp)) bb9 (bo8.fr fa (by simp)) (own_fr own8 fa (by simp)) (fun b hb => ?_) (fun b hb => ⟨fun hs => ?_, .inl hb⟩) (by omega) (Nat.le_succ _) hS'
  · have h2 := pub6 b hb
    have h3 := fa.size
    rw [hsz8] at h3
    omega
  · have h2 := fr7 b hb
    refine ⟨by omega, fun hs => ?_⟩
    have h3 := pub6 b hs
    omega
  · have h2 := own_lt m.kp.own hb
    rcases hS2 b hs with h3 | h3
    · exact m.offk b hb h3
    · omega
/-- The iterator has taken one out. -/
theorem DJ.iter {W3 : World} {kv3 : Value} {i : Nat} (j : DJ S w g hx hb ob' l D m kv0 ev rec n kv L out W) (f : Fr [] W W3) (k3 : Kp 120 S W3 kv3 (L.eraseIdx i)) (hn : ∀ b, kv3.ownBlock = some b → W.heap.size ≤ b) :
    DJ S w g hx hb ob' l D m kv0 ev rec n kv3 (L.eraseIdx i) out (W3.setCell ⟨g, 2, none⟩ kv3) := by
  have j3 := j.fr0 f
  have f2 := (Fr.refl [g] W3).setCell (p := ⟨g, 2, none⟩) (.inl (by simp)) kv3
  obtain ⟨oA, oc, o1, o2, o3⟩ := j3.orow
  have hs : ∀ x ∈ [g], ¬ S x := by intro x hx; simp at hx; subst hx; exact j.seen.offg
  have hW := j.fr.size
  have hbk : Blk (W3.setCell ⟨g, 2, none⟩ kv3) g 115 (hpa m n kv3 ev) := by simpa using j3.seen.blk.set_ 2 kv3
  have e1 : ∀ b, kv3.ownBlock = some b → b ∉ [g] := fun b hb' => by
    simp
    rintro rfl
    exact own_ne k3.own j3.seen.blk (by decide) hb'
  refine ⟨j3.fr.trans f2 (by simp), ⟨hbk, k3.fr f2 hs e1, (j3.hbb.fr f2 ?_).cell 0, fun b hb' => Nat.lt_of_lt_of_le (j3.seen.pub b hb') f2.size, j.seen.offg, fun x hx => j.seen.pc x (List.mem_of_mem_eraseIdx hx), j.seen.n0, j.seen.n1, Nat.le_trans (List.length_eraseIdx_le _ _) j.seen.len⟩,
    j3.hbx.fr f2 ?_, j3.hbb.fr f2 ?_, ⟨oA, oc, o1.fr f2 ?_, own_fr o2 f2 ?_, o3⟩, ?_, ?_, fr_at j3.rcd f2 ?_, fr_at j3.dfr f2 ?_, j.old, j.off⟩
  · simpa using blk_ne j3.hbb j3.seen.blk (by decide)
  · simpa using blk_ne j3.hbx j3.seen.blk (by decide)
  · simpa using blk_ne j3.hbb j3.seen.blk (by decide)
  · simpa using blk_ne o1 j3.seen.blk (by decide)
  · intro b hb'
    simp
    rintro rfl
    exact own_ne o2 j3.seen.blk (by decide) hb'
  · intro b hb'
    have h1 := hn b hb'
    refine ⟨fun h2 => ?_, .inr (by omega)⟩
    have := j.seen.pub b h2
    omega
  · have h1 := j.olen
    have h2 := List.length_eraseIdx_le L i
    have h3 : 64 * (65 - L.length) ≤ 64 * (65 - (L.eraseIdx i).length) := Nat.mul_le_mul_left _ (by omega)
    omega
  · simpa using fun e => blk_loop j3.rcd j3.seen.blk e.symm
  · simpa using fun e => blk_def j3.dfr j3.seen.blk e.symm
/-- A round has told a piece. -/
theorem DJ.took {W3 : World} {n' : Int} {out' : List Int} {A : Option Addr} {c : Nat} (j : DJ S w g hx hb ob' l D m kv0 ev rec n kv L out W) (oA : Option Addr) (oc : Nat) (o1 : Blk W ob' 25 #[.slice oA out.length oc]) (o2 : W.ownsRow 0 5 1 (.slice oA out.length oc) out.length (byts out))
    (o3 : ∀ b, (Value.slice oA out.length oc).ownBlock = some b → w.heap.size ≤ b ∧ ¬ S b)
    (f : Fr (g :: ob (.slice oA out.length oc)) W W3) (hbk : Blk W3 g 115 (hpa m n' kv ev)) (hown : W3.ownsRow 0 5 1 (.slice A out'.length c) out'.length (byts out'))
    (hnew : ∀ b, (Value.slice A out'.length c).ownBlock = some b → (Value.slice oA out.length oc).ownBlock = some b ∨ (W.heap.size ≤ b ∧ b < W3.heap.size)) (h0 : 0 ≤ n') (h1 : n' ≤ 4611686018427387968) (hol : out'.length ≤ 64 * (65 - L.length)) :
    DJ S w g hx hb ob' l D m kv0 ev rec n' kv L out' (W3.setCell ⟨ob', 0, none⟩ (.slice A out'.length c)) := by
  have hW := j.fr.size
  have a1 : ∀ x ∈ g :: ob (.slice oA out.length oc), ¬ S x := by
    intro x hx
    rcases List.mem_cons.1 hx with rfl | hx
    · exact j.seen.offg
    · exact (o3 x (mem_ob.1 hx)).2
  have a2 : ∀ {t : TypeId} {cs : Array Value} {k : Nat}, Blk W k t cs → t ≠ 115 → t ≠ 5 → k ∉ g :: ob (.slice oA out.length oc) := by
    intro t cs k hk h2 h3 hm
    rcases List.mem_cons.1 hm with rfl | hx
    · exact blk_ne hk j.seen.blk h2 rfl
    · exact own_ne o2 hk (Ne.symm h3) (mem_ob.1 hx)
  have f1 : Fr [g] w W3 := j.fr.trans f (by
    intro x hx
    rcases List.mem_cons.1 hx with rfl | hx
    · exact .inl (by simp)
    · exact .inr (o3 x (mem_ob.1 hx)).1)
  have b1 := o1.fr f (a2 o1 (by decide) (by decide))
  have b2 := j.hbx.fr f (a2 j.hbx (by decide) (by decide))
  have b3 := j.hbb.fr f (a2 j.hbb (by decide) (by decide))
  have r1 := fr_at j.rcd f (by
    intro hm
    rcases List.mem_cons.1 hm with rfl | hx
    · exact blk_loop j.rcd j.seen.blk rfl
    · exact own_loop j.rcd o2 (mem_ob.1 hx) rfl)
  have r2 := fr_at j.dfr f (by
    intro hm
    rcases List.mem_cons.1 hm with rfl | hx
    · exact blk_def j.dfr j.seen.blk rfl
    · exact own_def j.dfr o2 (mem_ob.1 hx) rfl)
  have kp3 := j.seen.kp.fr f a1 (by
    intro b hb' hm
    rcases List.mem_cons.1 hm with rfl | hx
    · exact own_ne j.seen.kp.own j.seen.blk (by decide) hb'
    · exact own_ne2 j.seen.kp.own o2 (by decide) hb' (mem_ob.1 hx))
  have f2 := (Fr.refl [ob'] W3).setCell (p := ⟨ob', 0, none⟩) (.inl (by simp)) (.slice A out'.length c)
  have hS2 : ∀ x ∈ [ob'], ¬ S x := by intro x hx; simp at hx; subst hx; exact j.off.2
  have nk : ∀ b, kv.ownBlock = some b → b ∉ [ob'] := fun b hb' => by
    simp
    rintro rfl
    exact own_ne kp3.own b1 (by decide) hb'
  refine ⟨f1.trans f2 (by intro x hx; simp at hx; subst hx; exact .inr j.old.1), ⟨hbk.fr f2 ?_, kp3.fr f2 hS2 nk, (b3.fr f2 ?_).cell 0, fun b hb' => Nat.lt_of_lt_of_le (j.seen.pub b hb') (Nat.le_trans f.size f2.size), j.seen.offg, j.seen.pc, h0, h1, j.seen.len⟩,
    b2.fr f2 ?_, b3.fr f2 ?_, ⟨A, c, ?_, own_fr hown f2 ?_, ?_⟩, j.offk, hol, fr_at r1 f2 ?_, fr_at r2 f2 ?_, j.old, j.off⟩
  · simpa using blk_ne hbk b1 (by decide)
  · simpa using blk_ne b3 b1 (by decide)
  · simpa using blk_ne b2 b1 (by decide)
  · simpa using blk_ne b3 b1 (by decide)
  · simpa using b1.set_ 0 (.slice A out'.length c)
  · intro b hb'
    simp
    rintro rfl
    exact own_ne hown b1 (by decide) hb'
  · intro b hb'
    rcases hnew b hb' with h2 | ⟨h2, _⟩
    · exact o3 b h2
    · refine ⟨by omega, fun hs => ?_⟩
      have := j.seen.pub b hs
      omega
  · simpa using fun e => blk_loop r1 b1 e.symm
  · simpa using fun e => blk_def r2 b1 e.symm
end
end Go.Proofs.Ytmgdbbbdhkfdmaa

namespace Go.Proofs.Ytmgdbbbdhkfdmaa
set_option maxRecDepth 100000
open Go.RowKit Go.Shelf

/-- The post of a function's body that holds a range over a function. -/
def endM (P : Program) (fn : Func) (R : Ending → World → Prop) : Exit → Act → World → Prop := bodyPostM Fence.wide 5 P fn R
theorem calls_of_marks {P : Program} {f : FuncId} {fn : Func} {c : Code} {args : Array Value} {w : World} {R : Ending → World → Prop} (hf : P.funcs[f]? = some fn) (hb : fn.body = some c)
    (h : c.wp P (endM P fn R) { tmps := args ++ Array.replicate (fn.ntmps - args.size) undef, defers := [] } w) : Calls P f args w R :=
  callsIn_wide.1 (callsIn_of_wp_marks hf hb trivial (wpIn_wide.2 h) rfl)
theorem endM_ret {P : Program} {fn : Func} {R : Ending → World → Prop} {a : Act} {w : World} {D : Nat} {v : Value} (hd : a.defers = [{ target := .collected D, args := #[] }]) (hK : w.heap[D]? = some (.deferred (some [])))
    (hr : (results fn a.tmps).run P (w.putObj D (.deferred none)) = .ok v (w.putObj D (.deferred none))) (hR : R (.returned v) (w.putObj D (.deferred none))) : endM P fn R .ret a w := by
  unfold endM bodyPostM
  dsimp only
  rw [hd]
  refine ⟨by simp, .inl ⟨_, _, rfl, run_takeDeferred hK, ?_⟩⟩
  exact ⟨_, hr, hR⟩
/-- How a round's body is left. -/
def rndPost (R : World → Prop) : Exit → Act → World → Prop
  | .normal, _, w => R w
  | _, _, _ => False

/-- A range over a function, its iterator's contract and the rounds' over one invariant. -/
theorem wp_range_iter {P : Program} {σ : Type} {g : Operand} {ps : Array Tmp} {assign body : Code} {Q : Exit → Act → World → Prop} {a : Act} {w : World} (gf : Nat) (lb : Array Value)
    (hg : a.eval g = .func (.func gf) #[] lb) (eg : ∀ args w, (callFunc gf args).run P w = .ok (.enter gf args) w) (hps : ps.size = 1)
    (J : Loop → σ → World → Prop) (s0 : σ) (Rnd : σ → σ → Value → World → Prop) (Fin : σ → Prop)
    (hput : ∀ r r' s W, J r s W → J r' s (W.putObj (w.heap.size + 1) (.loop r')))
    (hrcd : ∀ r s W, J r s W → W.heap[w.heap.size + 1]? = some (.loop r) ∧ W.heap[w.heap.size]? = some (.deferred (some [])))
    (hstart : ∀ r, J r s0 ((w.alloc (.deferred (some []))).alloc (.loop r)))
    (hround : ∀ s s' v W r r', J r s W → Rnd s s' v W → assign.wpIn (Fence.wide.inRound (w.heap.size + 1)) 3 P (Exit.then (fun a₁ w₁ => J r s w₁ ∧ body.wpIn (Fence.wide.inRound (w.heap.size + 1)) 3 P (rndPost (J r' s')) a₁ (w₁.putObj (w.heap.size + 1) (.loop r'))) (fun _ _ _ => False))
      { tmps := (ps.zip #[v]).foldl (fun t (p, x) => t.setIfInBounds p x) a.tmps, defers := [] } W)
    (hseq : ∀ r, (∀ s s' v W, J r s W → Rnd s s' v W → YieldAt Fence.wide 3 P (w.heap.size + 1) #[v] W fun e W' => e = .returned (.bool true) ∧ J r s' W') →
      ∀ W1, J r s0 W1 → Calls P gf (#[.func (.yield (w.heap.size + 1)) #[] #[]] ++ lb) W1 fun e W' => (∃ v, e = .returned v) ∧ ∃ s, Fin s ∧ J r s W')
    (hdone : ∀ r s W, Fin s → J r s W → Q .normal { a with defers := { target := .collected w.heap.size, args := #[] } :: a.defers } W) :
    (Code.rangeFunc g ps assign body).wp P Q a w := by
  refine (wpIn_wide (n := 5)).1 ?_
  refine wpIn_rangeFunc ?_
  intro fn hfn
  obtain ⟨rec, hrec⟩ : ∃ rec : LoopState → Option Code → Loop, rec = fun st pe => { state := st, pending := pe, fn, tmps := a.tmps, params := ps, assign, body, defers := w.heap.size } := ⟨_, rfl⟩
  obtain ⟨W1, hW1⟩ : ∃ W1, (w.alloc (.deferred (some []))).alloc (.loop (rec .ready none)) = W1 := ⟨_, rfl⟩
  refine ⟨w.heap.size + 1, [{ target := .collected w.heap.size, args := #[] }], W1, { target := .fn (.func gf) lb, args := #[.func (.yield (w.heap.size + 1)) #[] #[]] }, W1, gf,
    #[.func (.yield (w.heap.size + 1)) #[] #[]] ++ lb, W1, ?_, ?_, ?_, ?_, fun h => by simp [Fence.wide] at h, ?_⟩
  · rw [← hW1, hrec]; exact run_enterLoop_outer _ _ _ _ _
  · simp only [resolve, hg]
    simp [go_sem]
  · intro f' hf'; trivial
  · simp [invoke, go_sem, eg]
  · refine callsIn_wide.2 ((hseq (rec .ready none) ?_ W1 (by rw [← hW1]; exact hstart _)).mono ?_)
    · intro s s' v W hj hp
      obtain ⟨hl, _⟩ := hrcd _ _ _ hj
      have hy := run_yield (P := P) (args := #[v]) hl (by rw [hrec]; simpa using hps.symm)
      rw [hrec] at hy
      refine ⟨fn, _, assign, body, hy, roundIn_of_wpIn hfn (wpIn_mono (hround s s' v W (rec .ready none) { rec .ready none with state := .busy } hj hp) ?_)⟩
      rintro e a1 w1 hp1
      cases e with
      | normal =>
        obtain ⟨hj1, hb⟩ := hp1
        obtain ⟨hl1, _⟩ := hrcd _ _ _ hj1
        refine ⟨_, run_beginRound hl1 (by rw [hrec]), wpIn_mono hb ?_⟩
        rintro e2 a2 w2 hp2
        cases e2 with
        | normal =>
          have hj2 : J _ s' w2 := hp2
          obtain ⟨hl2, _⟩ := hrcd _ _ _ hj2
          refine ⟨_, _, run_endRound none hl2, rfl, ?_⟩
          have := hput _ (rec .ready none) _ _ hj2
          rw [hrec] at this ⊢
          exact this
        | _ => exact hp2.elim
      | _ => exact hp1.elim
    · rintro e W2 ⟨⟨v, rfl⟩, s, hf, hj⟩
      obtain ⟨hl, _⟩ := hrcd _ _ _ hj
      exact ⟨none, _, by have := run_endLoop (P := P) hl (by rw [hrec]; simp); rw [hrec] at this; exact this, hdone _ s _ hf (hput _ _ s _ hj)⟩
/-- All was told. -/
theorem tell_post {S S' : Nat → Prop} {w W Wz : World} {g hx hb ob' l D : Nat} {kv kv' ev : Value} {h : Hp} {L L' : List (Pc × Value)} {n' : Int} {r : Loop} {out' : List Int} {oA : Option Addr} {oc : Nat} (m : HPx S w g kv ev h L) (hS1 : ∀ b, S b → S' b) (hS2 : ∀ b, S' b → S b ∨ w.heap.size ≤ b)
    (j : DJ S' w g hx hb ob' l D h.most kv ev r n' kv' L' out' W) (o1 : Blk W ob' 25 #[.slice oA out'.length oc]) (o2 : W.ownsRow 0 5 1 (.slice oA out'.length oc) out'.length (byts out')) (o3 : ∀ b, (Value.slice oA out'.length oc).ownBlock = some b → w.heap.size ≤ b ∧ ¬ S' b)
    (f : Fr [ob', D] W Wz) (hD : w.heap.size ≤ D) (hSD : ¬ S' D) : PutPost S w g kv { h with next := n', kept := L'.map (·.1) } out' 0 (.returned (.tuple #[.slice oA out'.length oc, .int .i64 0])) Wz := by
  have hO : ∀ x ∈ [ob', D], ¬ S' x := by
    intro x hx
    simp at hx
    rcases hx with rfl | rfl
    · exact j.off.2
    · exact hSD
  have hg : g ∉ [ob', D] := by
    simp
    exact ⟨fun e => blk_ne o1 j.seen.blk (by decide) e.symm, fun e => blk_def j.dfr j.seen.blk e⟩
  have hk : ∀ b, kv'.ownBlock = some b → b ∉ [ob', D] := fun b hb' => by
    simp
    refine ⟨fun e => own_ne j.seen.kp.own o1 (by decide) (e ▸ hb'), fun e => own_def j.dfr j.seen.kp.own hb' e⟩
  have ho : ∀ b, (Value.slice oA out'.length oc).ownBlock = some b → b ∉ [ob', D] := fun b hb' => by
    simp
    refine ⟨fun e => own_ne o2 o1 (by decide) (e ▸ hb'), fun e => own_def j.dfr o2 hb' e⟩
  have F : Fr [g] w Wz := j.fr.trans f (by
    intro x hx
    simp at hx
    rcases hx with rfl | rfl
    · exact .inr j.old.1
    · exact .inr hD)
  have own' := own_fr o2 f ho
  have hsz := j.fr.size
  refine ⟨fun b => S' b ∨ (Value.slice oA out'.length oc).ownBlock = some b, kv', oA, oc, rfl, ⟨fun b h => .inl (hS1 b h), fun b h => ?_⟩, Sl.of_own own' (fun b h => .inr h), ⟨ev, L', j.seen.blk.fr f hg, (j.seen.kp.fr f hO hk).mono (fun b h => .inl h), rfl, ?_, ?_, ?_, ?_⟩, F.mono (by simp), fun b h => (j.offk b h).2⟩
  · rcases h with h | h
    · exact hS2 b h
    · exact .inr (o3 b h).1
  · rcases m.fin with h1 | ⟨fa, fb, h1, h2, h3, h4⟩
    · exact .inl h1
    · exact .inr ⟨fa, fb, h1, h2, .inl (hS1 fb h3), (F.cell (p := ⟨fb, 0, none⟩) (m.pub fb h3) (by simp; rintro rfl; exact m.offg h3)).trans h4⟩
  · intro b h
    rcases h with h | h
    · exact Nat.lt_of_lt_of_le (j.seen.pub b h) f.size
    · exact own_lt own' h
  · rintro (h | h)
    · exact j.seen.offg h
    · exact own_ne o2 j.seen.blk (by decide) h
  · rintro b hb' (h | h)
    · exact (j.offk b hb').1 h
    · exact own_ne2 j.seen.kp.own o2 (by decide) hb' h
end Go.Proofs.Ytmgdbbbdhkfdmaa

namespace Go.Proofs.Ytmgdbbbdhkfdmaa
set_option maxRecDepth 100000
open Go.RowKit Go.Deep Go.Shelf
attribute [local go_sem] Oper.semAt_some
/-- What a round knows of the piece that it is handed, and the state behind it. -/
def TellRnd (S : Nat → Prop) (s s' : Int × Value × List (Pc × Value) × List Int) (v : Value) (W : World) : Prop :=
  ∃ (p : Pc) (A : Option Addr) (c : Nat), v = agp p.at_ (.slice A p.d.length c) ∧ Byt S W (.slice A p.d.length c) p.d ∧ 0 ≤ p.at_ ∧ p.at_ ≤ s.1 ∧ p.at_ ≤ 4611686018427387904 ∧ p.d.length ≤ 64 ∧ s.2.2.2.length + 64 ≤ 64 * (65 - s.2.2.1.length) ∧
    s' = ((takeV s.1 p).2, s.2.1, s.2.2.1, s.2.2.2 ++ (takeV s.1 p).1)
def TellFin (k : Nat) (n : Int) (L : List Pc) (l : List Int) (s : Int × Value × List (Pc × Value) × List Int) : Prop :=
  s.1 = (drainV k n L).1 ∧ s.2.2.1.map (·.1) = (drainV k n L).2.1 ∧ s.2.2.2 = l ++ (drainV k n L).2.2
theorem ready_any (g : Nat) (w : World) : Calls Try.prog 88 #[ptr g] w fun e w' => e = .returned (.func (.func 96) #[] #[.pointer (some ⟨w.heap.size, 0, none⟩)]) ∧ w.alloc (.cells #[ptr g] 37) = w' := by
  go_enter Try.func88, Try.ntmps88
  go_wp2
  go_ret
  exact ⟨rfl, rfl⟩
/-- What stands where a piece is to be told, what is ahead of Next cut off. -/
structure TellRel (S S' : Nat → Prop) (w : World) (g hx ob' pb : Nat) (kv ev : Value) (h : Hp) (L : List (Pc × Value)) (l : List Int) (wx : World) : Prop where
  fr : Fr [] w wx
  hbx : Blk wx hx 37 #[ptr g]
  obx : Blk wx ob' 25 #[.slice none 0 0]
  hp : HPx S wx g kv ev h L
  pc : ∃ A c, Blk wx pb 120 #[.int .i64 h.next, .slice A l.length c] ∧ Byt S' wx (.slice A l.length c) l
  pub : ∀ b, S' b → b < wx.heap.size

set_option maxRecDepth 100000 in
set_option maxHeartbeats 2000000 in
theorem put_tell {S : Nat → Prop} {w : World} {g : Nat} {kv : Value} {h : Hp} (m : HP S w g kv h) (a : Int) (dv : Value) (d : List Int) (T : Nat → Prop) (hd : Byt T w dv d) (hl : d.length ≤ 1000000) (h0 : 0 ≤ a) (h1 : a ≤ 4611686018427387904) (h2 : 1 ≤ d.length) (h3 : d.length ≤ 64) (h4 : past h.fin (a + d.length) = false) (h5 : a ≤ h.next) (h6 : h.next < a + d.length) (hi : Inv h) :
    Calls Try.prog 78 #[ptr g, .int .i64 a, dv] w (PutPost S w g kv { h with next := (drainV h.kept.length (a + d.length) h.kept).1, kept := (drainV h.kept.length (a + d.length) h.kept).2.1 } (d.drop (h.next - a).toNat ++ (drainV h.kept.length (a + d.length) h.kept).2.2) 0) := by
  have M := Lib.hid m
  obtain ⟨ev, L, m⟩ := m
  obtain ⟨A, c, rfl, hn, hcm⟩ := hd.form
  have c4 := m.cells.2.2.2.2
  have hg := m.blk.lt
  have hcl : ∀ W, Fr [] w W → Calls Try.prog 44 #[.slice A d.length c] W _ := fun W f => cloneB_any W (hd.fr f (by simp)) hl
  have Hcl := Lib.hid hcl
  have f0 : Fr [] w ((w.alloc (.cells #[ptr g] 37)).alloc (.cells #[.slice none 0 0] 25)) := ((Fr.refl _ _).alloc _).alloc _
  have bo := Blk.new (w.alloc (.cells #[ptr g] 37)) 25 #[.slice none 0 0]
  have bh := (Blk.new w 37 #[ptr g]).alloc (.cells #[.slice none 0 0] 25)
  have BO := Lib.hid bo
  have BH := Lib.hid bh
  have M0 := Lib.hid m
  clear hcl m hd bo bh
  have HP := Lib.hid h4
  have HI := Lib.hid hi
  clear h4 hi
  let tok : Exit → Act → World → Prop := bodyPost Try.prog Try.f78 (fun _ _ => True)
  refine calls_of_marks Try.func78 rfl ?_
  simp only [Try.ntmps78, List.size_toArray, List.length_cons, List.length_nil, Nat.reduceAdd, Nat.reduceSub, Array.replicate_succ, Array.replicate_zero, List.push_toArray, List.append_toArray, List.nil_append, List.cons_append]
  go_wp2_with fail
  refine wp_scope_fwd 0 rfl ?_
  go_wp2_with fail
  refine (Hcl.out _ f0).mono ?_
  rintro e w1 ⟨A1, c1, rfl, own1, f1, fb1⟩
  have F1 : Fr [] w w1 := f0.trans f1 (by simp)
  have b4 := fr_cell F1 c4
  have bh1 := BH.out.fr f1 (by simp)
  have bo1 : Blk w1 (w.heap.size + 1) 25 #[.slice none 0 0] := by simpa using BO.out.fr f1 (by simp)
  have bh0 : w1.cell? ⟨w.heap.size, 0, none⟩ = some (ptr g) := bh1.cell 0
  have bo0 : w1.cell? ⟨w.heap.size + 1, 0, none⟩ = some (.slice none 0 0) := by simpa using bo1.cell 0
  have bof : w1.frozen? ⟨w.heap.size + 1, 0, none⟩ = false := by simpa using bo1.frozen 0
  have sz1 : w.heap.size + 1 < w1.heap.size := by have := f1.size; simp at this; omega
  have sz2 : w.heap.size < w1.heap.size := by omega
  have hg1 : g < w1.heap.size := by omega
  have HF1 := Lib.hid F1
  have HO1 := Lib.hid own1
  have HB1 := Lib.hid fb1
  have Bh1 := Lib.hid bh1
  have Bo1 := Lib.hid bo1
  clear f0 f1 F1 own1 fb1 c4 bh1 bo1
  go_upto_region 7 with (go_at_call 70; refine (none_hp ?_).mono ?_; (first | exact b4 | exact cell_al b4 _ | assumption); rintro e w' ⟨rfl, rfl⟩)
  have fp : Fr [] w1 (w1.alloc (bxp a (.slice A1 d.length c1))) := (Fr.refl _ _).alloc _
  have pb := Blk.new w1 120 #[.int .i64 a, .slice A1 d.length c1]
  have szp : w1.heap.size < (w1.alloc (bxp a (.slice A1 d.length c1))).heap.size := by simp
  generalize w1.alloc (bxp a (.slice A1 d.length c1)) = W1 at *
  have FP := Lib.hid fp
  have PB := Lib.hid pb
  clear fp pb bh0 bo0 bof b4 hn
  go_cut [47] (fun s47 wx => s47 = .bool (past h.fin (a + d.length)) ∧ Fr [] W1 wx)
  case first =>
    have qh := fr_cell FP.out (show w1.cell? ⟨w.heap.size, 0, none⟩ = some (ptr g) from Bh1.out.cell 0)
    have q3 := fr_cell (HF1.out.trans FP.out (by simp)) M0.out.cells.2.2.2.1
    have p0 := PB.out.cell 0
    have p1 := PB.out.cell 1
    have x0 := Grew.cell qh
    have x1 := Grew.cell q3
    have x2 := Grew.cell p0
    have x3 := Grew.cell p1
    have hbeh : ∀ p : Grew W1, Calls Try.prog 86 #[agp a (.slice A1 d.length c1)] p.W fun e w'' => e = .returned (.int .i64 (a + d.length)) ∧ ∃ q : Grew W1, w'' = q.W := fun p => grew_call (behind_fr a A1 d.length c1 _ h0 (by omega) (by omega))
    have HBH := Lib.hid hbeh
    have hfin := M0.out.fin
    clear qh q3 p0 p1 hbeh
    rcases hfin with ⟨e1, rfl⟩ | ⟨fa, fb, e1, rfl, e3, e4⟩
    · have e5 : past h.fin (a + d.length) = false := by unfold past; rw [e1]
      have E5 := Lib.hid e5
      clear e1 e5
      refine wp_region_grew (by kernel_rfl) (by kernel_rfl) ?_
      repeat (go_big_quiet_step ((go_at_call 86; exact HBH.out _)))
      refine wpQuiet_nil ?_
      intro W2 f2
      go_wp2_with fail
      go_meet
      exact ⟨by rw [E5.out], f2⟩
    · have e5 : past h.fin (a + d.length) = decide (fa < a + d.length) := by unfold past; rw [e1]
      have E5 := Lib.hid e5
      have x4 := Grew.cell (fr_cell (HF1.out.trans FP.out (by simp)) e4)
      clear e1 e5 e4
      refine wp_region_grew (by kernel_rfl) (by kernel_rfl) ?_
      repeat (go_big_quiet_step ((go_at_call 86; exact HBH.out _)))
      refine wpQuiet_nil ?_
      intro W2 f2
      go_wp2_with fail
      go_meet
      exact ⟨by rw [E5.out], f2⟩
  case rest =>
    obtain ⟨rfl, f2⟩ := hcut
    generalize wc = W2 at *
    have F2 := Lib.hid ((HF1.out.trans FP.out (by simp)).trans f2 (by simp))
    have Bh2 := Lib.hid (Bh1.out.fr (FP.out.trans f2 (by simp)) (by simp))
    have Bo2 := Lib.hid (Bo1.out.fr (FP.out.trans f2 (by simp)) (by simp))
    have Pb2 := Lib.hid (PB.out.fr f2 (by simp))
    have M2 := Lib.hid (M0.out.fr F2.out (by simp) (by simp) (by simp))
    have D2 := Lib.hid (own_fr HO1.out (FP.out.trans f2 (by simp)) (by simp))
    clear f2
    have xbh : W2.cell? ⟨w.heap.size, 0, none⟩ = some (ptr g) := Bh2.out.cell 0
    have xbo : W2.cell? ⟨w.heap.size + 1, 0, none⟩ = some (.slice none 0 0) := Bo2.out.cell 0
    have xbof := Bo2.out.frozen 0
    have xp0 : W2.cell? ⟨w1.heap.size, 0, none⟩ = some (.int .i64 a) := Pb2.out.cell 0
    have xp1 : W2.cell? ⟨w1.heap.size, 1, none⟩ = some (.slice A1 d.length c1) := Pb2.out.cell 1
    obtain ⟨xc0, xc1, xc2, xc3, xc4⟩ := M2.out.cells
    have xsp := Pb2.out.lt
    have xsh := Bh2.out.lt
    have xso := Bo2.out.lt
    have xsg := M2.out.blk.lt
    rw [HP.out]
    go_upto_region 8 with fail
    go_cut [63] (fun s63 wx => s63 = .bool (decide (a < h.next)) ∧ Fr [] W2 wx)
    case first =>
      have y0 := Grew.cell xbh
      have y1 := Grew.cell xc1
      have y2 := Grew.cell xp0
      have y3 := Grew.cell xp1
      have hbeh : ∀ p : Grew W2, Calls Try.prog 86 #[agp a (.slice A1 d.length c1)] p.W fun e w'' => e = .returned (.int .i64 (a + d.length)) ∧ ∃ q : Grew W2, w'' = q.W := fun p => grew_call (behind_fr a A1 d.length c1 _ h0 (by omega) (by omega))
      have HBH := Lib.hid hbeh
      clear hbeh
      by_cases hlt : a < h.next
      · refine wp_region_grew (by kernel_rfl) (by kernel_rfl) ?_
        repeat (go_big_quiet_step ((go_at_call 86; exact HBH.out _)))
        refine wpQuiet_nil ?_
        intro W3 f3
        go_wp2_with fail
        go_meet
        exact ⟨by simp [hlt], f3⟩
      · have hlf : decide (a < h.next) = false := by simpa using hlt
        refine wp_region_grew (by kernel_rfl) (by kernel_rfl) ?_
        repeat (go_big_quiet_step ((go_at_call 86; exact HBH.out _)))
        refine wpQuiet_nil ?_
        intro W3 f3
        go_wp2_with fail
        go_meet
        exact ⟨by simp [hlt], f3⟩
    case rest =>
      obtain ⟨rfl, f3⟩ := hcut
      generalize wc = W3 at *
      have F3 := Lib.hid (F2.out.trans f3 (by simp))
      have Bh3 := Lib.hid (Bh2.out.fr f3 (by simp))
      have Bo3 := Lib.hid (Bo2.out.fr f3 (by simp))
      have Pb3 := Lib.hid (Pb2.out.fr f3 (by simp))
      have M3 := Lib.hid (M2.out.fr f3 (by simp) (by simp) (by simp))
      have D3 := Lib.hid (own_fr D2.out f3 (by simp))
      clear xbh xbo xbof xp0 xp1 xc0 xc1 xc2 xc3 xc4 xsp xsh xso xsg f3
      have xbh : W3.cell? ⟨w.heap.size, 0, none⟩ = some (ptr g) := Bh3.out.cell 0
      have xbo : W3.cell? ⟨w.heap.size + 1, 0, none⟩ = some (.slice none 0 0) := Bo3.out.cell 0
      have xbof := Bo3.out.frozen 0
      have xp0 : W3.cell? ⟨w1.heap.size, 0, none⟩ = some (.int .i64 a) := Pb3.out.cell 0
      have xp1 : W3.cell? ⟨w1.heap.size, 1, none⟩ = some (.slice A1 d.length c1) := Pb3.out.cell 1
      obtain ⟨xc0, xc1, xc2, xc3, xc4⟩ := M3.out.cells
      have xsp := Pb3.out.lt
      have xsh := Bh3.out.lt
      have xso := Bo3.out.lt
      have xsg := M3.out.blk.lt
      go_upto_if 63 with fail
      go_cut [64] (fun _ wx => TellRel S (fun b => S b ∨ (Value.slice A1 d.length c1).ownBlock = some b) w g w.heap.size (w.heap.size + 1) w1.heap.size kv ev h L (d.drop (h.next - a).toNat) wx)
      case first =>
        have hby : Byt (fun b => S b ∨ (Value.slice A1 d.length c1).ownBlock = some b) W3 (.slice A1 d.length c1) d := Sl.of_own D3.out (fun b h => .inr h)
        have HBY := Lib.hid hby
        clear hby
        by_cases hlt : a < h.next
        · obtain ⟨k, hk⟩ : ∃ k : Nat, h.next - a = (k : Int) := ⟨(h.next - a).toNat, by omega⟩
          have hkn : k < d.length := by omega
          obtain ⟨b1, o1, rfl, _, _⟩ := HBY.out.at_ (k := 0) (by omega)
          have hcc : d.length ≤ c1 := by
            obtain ⟨_, _, hv, h1, _⟩ := HBY.out.form
            injection hv with _ _ hc
            omega
          have hw : IntKind.i64.wrap (k : Int) = (k : Int) := IntWalk.i64_in _ (by omega)
          have hk0 : (0 : Int) ≤ (k : Int) := by omega
          have hk1 : (k : Int) ≤ (d.length : Int) := by omega
          have hk2 : (d.length : Int) ≤ (c1 : Int) := by omega
          have hck : ¬ c1 = k := by omega
          go_wp2_with fail
          have hcut := HBY.out.cut (k := k) (by omega)
          rw [if_neg hck] at hcut
          simp only [Option.map_some, add_lit'] at hcut
          have Hcut := Lib.hid hcut
          clear hcut
          go_still_tail 15, (by kernel_rfl)
          change wpList Try.prog _ _ _ _ W3.drew
          refine wpList_store_blk rfl 120 (.tmp 8) (.tmp 78) rfl w1.heap.size 120 #[.int .i64 a, .slice (some ⟨b1, o1, none⟩) d.length c1] #[.int .i64 h.next, .slice (some ⟨b1, o1 + k, none⟩) (d.length - k) (c1 - k)] rfl rfl Pb3.out rfl (by kernel_rfl) (by simp [Value.oneCell']) ?_
          intro W4 B4 F4
          have f4 : Fr [w1.heap.size] W3 W4 := (Fr.refl [w1.heap.size] W3).drew.trans F4 (by simp)
          clear F4
          go_wp2_with fail
          go_meet
          have hkk : (h.next - a).toNat = k := by omega
          have hlk : (d.drop k).length = d.length - k := List.length_drop
          have nS : ∀ x ∈ [w1.heap.size], ¬ (S x ∨ (Value.slice (some ⟨b1, o1, none⟩) d.length c1).ownBlock = some x) := by
            intro x hx
            simp only [List.mem_singleton] at hx
            subst hx
            rintro (hs | hs)
            · have := M0.out.pub _ hs; omega
            · have := own_lt HO1.out hs; omega
          rw [hkk]
          refine ⟨F3.out.trans f4 (by intro x hx; simp only [List.mem_singleton] at hx; subst hx; exact .inr (by omega)), Bh3.out.fr f4 (by simpa using blk_ne Bh3.out Pb3.out (by decide)), Bo3.out.fr f4 (by simpa using blk_ne Bo3.out Pb3.out (by decide)), M3.out.fr f4 (fun x hx hs => nS x hx (.inl hs)) (by simpa using blk_ne M3.out.blk Pb3.out (by decide)) (fun b hb => ?_), ⟨_, _, by rw [hlk]; exact B4, by rw [hlk]; exact Hcut.out.fr f4 nS⟩, fun b hb => Nat.lt_of_lt_of_le (hb.elim (M3.out.pub b) (own_lt D3.out)) f4.size⟩
          simp only [List.mem_singleton]
          have := own_lt M0.out.kp.own hb
          omega
        · go_wp2_with fail
          go_meet
          have hk : (h.next - a).toNat = 0 := by omega
          have hn : h.next = a := by omega
          exact ⟨F3.out, Bh3.out, Bo3.out, M3.out, ⟨A1, c1, by rw [hk, hn, List.drop_zero]; exact Pb3.out, by rw [hk, List.drop_zero]; exact HBY.out⟩, fun b hb => hb.elim (M3.out.pub b) (own_lt D3.out)⟩
      case rest =>
        obtain ⟨gf, ghb, gob, ghp, ⟨A2, c2, gpc, gby⟩, gpub⟩ := hcut
        generalize wc = W4 at *
        clear xbh xbo xbof xp0 xp1 xc0 xc1 xc2 xc3 xc4 xsp xsh xso xsg
        have hll : (d.drop (h.next - a).toNat).length = d.length - (h.next - a).toNat := List.length_drop
        have hlk : (h.next - a).toNat < d.length := by omega
        have hbeh : h.next + ((d.drop (h.next - a).toNat).length : Int) = a + d.length := by omega
        have hll2 : (d.drop (h.next - a).toNat).length ≤ 64 := by omega
        have hll1 : 1 ≤ (d.drop (h.next - a).toNat).length := by omega
        have Hbeh := Lib.hid hbeh
        clear hll hlk hbeh
        generalize hlq : d.drop (h.next - a).toNat = l at *
        have Hlq := Lib.hid hlq
        clear hlq
        have z0 := Grew.cell (show W4.cell? ⟨w.heap.size, 0, none⟩ = some (ptr g) from ghb.cell 0)
        have z1 := Grew.cell ghp.cells.2.1
        have z2 := Grew.cell (show W4.cell? ⟨w1.heap.size, 0, none⟩ = some (.int .i64 h.next) from gpc.cell 0)
        have Ggf := Lib.hid gf
        have Ghb := Lib.hid ghb
        have Gob := Lib.hid gob
        have Ghp := Lib.hid ghp
        have Gpc := Lib.hid gpc
        have Gby := Lib.hid gby
        have Gpub := Lib.hid gpub
        clear gf ghb gob ghp gpc gby gpub
        go_wp2_with fail
        refine wp_region_grew (by kernel_rfl) (by kernel_rfl) ?_
        repeat (go_big_quiet_step (fail))
        refine wpQuiet_nil ?_
        intro W5 f5
        have z3 := Grew.cell (fr_cell f5 (show W4.cell? ⟨w.heap.size, 0, none⟩ = some (ptr g) from Ghb.out.cell 0))
        have z4 := Grew.cell (fr_cell f5 Ghp.out.cells.2.1)
        have z5 := Grew.cell (fr_cell f5 (show W4.cell? ⟨w1.heap.size, 0, none⟩ = some (.int .i64 h.next) from Gpc.out.cell 0))
        clear z0 z1 z2
        have F5 := Lib.hid f5
        clear f5
        go_wp2_with fail
        refine wp_region_grew (by kernel_rfl) (by kernel_rfl) ?_
        repeat (go_big_quiet_step (fail))
        refine wpQuiet_nil ?_
        intro W6 f6
        clear z3 z4 z5
        have f46 : Fr [] W4 W6 := F5.out.trans f6 (by simp)
        have ghb6 := Ghb.out.fr f46 (by simp)
        have gob6 := Gob.out.fr f46 (by simp)
        have gpc6 := Gpc.out.fr f46 (by simp)
        have ghp6 := Ghp.out.fr f46 (by simp) (by simp) (by simp)
        have z0 : W6.cell? ⟨w.heap.size, 0, none⟩ = some (ptr g) := ghb6.cell 0
        have z1 : W6.cell? ⟨w.heap.size + 1, 0, none⟩ = some (.slice none 0 0) := gob6.cell 0
        have z2 : W6.cell? ⟨w1.heap.size, 0, none⟩ = some (.int .i64 h.next) := gpc6.cell 0
        have z3 : W6.cell? ⟨w1.heap.size, 1, none⟩ = some (.slice A2 l.length c2) := gpc6.cell 1
        have htk : Calls Try.prog 87 #[ptr g, .slice none 0 0, agp h.next (.slice A2 l.length c2)] W6 (fun e w' => ∃ A c, e = .returned (.slice A l.length c) ∧ w'.ownsRow 0 5 1 (.slice A l.length c) l.length (byts l) ∧ Fr [g] W6 w' ∧ Blk w' g 115 (hpa h.most (a + d.length) kv ev) ∧ (∀ b, (Value.slice A l.length c).ownBlock = some b → W6.heap.size ≤ b ∧ b < w'.heap.size)) := by
          have e : takeV h.next ⟨h.next, l⟩ = (l, a + d.length) := by
            unfold takeV Pc.beh
            dsimp only
            rw [Hbeh.out, if_neg (by omega), Int.sub_self]
            rfl
          refine (take_any _ W6 g h.most h.next kv ev [] none 0 ⟨h.next, l⟩ (.slice A2 l.length c2) ghp6.blk (World.ownsRow_nil _ _ _ _) (Gby.out.fr f46 (by simp)) (fun b hb => Nat.lt_of_lt_of_le (Gpub.out b hb) f46.size) HI.out.n0 (Int.le_refl _) HI.out.n1 hll2 (by simp)).mono ?_
          rintro e' w' ⟨A, c, he, h1, h2, h3, h4⟩
          rw [e] at he h1 h3 h4
          refine ⟨A, c, he, h1, h2, h3, fun b hb => ?_⟩
          rcases h4 b hb with h5 | h5
          · simp [Value.ownBlock] at h5
          · exact h5
        have Htk := Lib.hid htk
        have Gpc6 := Lib.hid gpc6
        have Gob6 := Lib.hid gob6
        have Ghb6 := Lib.hid ghb6
        have Ghp6 := Lib.hid ghp6
        have F46 := Lib.hid f46
        have zso := gob6.lt
        clear htk gpc6 gob6 ghb6 ghp6 f46 f6
        go_wp2_with fail
        refine Htk.out.mono ?_
        rintro e W7 ⟨A3, c3, rfl, own7, f7, blk7, fr7⟩
        have n1 := blk_ne Gob6.out Ghp6.out.blk (by decide)
        have n2 := blk_ne Ghb6.out Ghp6.out.blk (by decide)
        have bo7 := Gob6.out.fr f7 (by simpa using n1)
        have bh7 := Ghb6.out.fr f7 (by simpa using n2)
        have y0 : W7.cell? ⟨w.heap.size, 0, none⟩ = some (ptr g) := bh7.cell 0
        have y1 : W7.cell? ⟨w.heap.size + 1, 0, none⟩ = some (.slice none 0 0) := bo7.cell 0
        have y2 := bo7.frozen 0
        have y3 := bo7.lt
        have y4 := bh7.lt
        have Own7 := Lib.hid own7
        have F7 := Lib.hid f7
        have Blk7 := Lib.hid blk7
        have Fr7 := Lib.hid fr7
        have Bo7 := Lib.hid bo7
        have Bh7 := Lib.hid bh7
        clear own7 f7 blk7 fr7 bo7 bh7 z0 z1 z2 z3
        go_wp2_with fail
        refine (ready_any g _).mono ?_
        rintro e w' ⟨rfl, rfl⟩
        have start := fun rec => tell_start (S' := fun b => S b ∨ (Value.slice A1 d.length c1).ownBlock = some b) rec M0.out HI.out (fun b hb => .inl hb) (fun b hb => hb.imp id (fun h => by have := HB1.out _ h; simp at this; omega)) (Ggf.out.trans F46.out (by simp)) Ghp6.out (fun b hb => Nat.lt_of_lt_of_le (Gpub.out b hb) F46.out.size) Ghb6.out Gob6.out F7.out Blk7.out Own7.out Fr7.out (by omega) (by omega) hll2
        have Start := Lib.hid start
        have hsz8 : (W7.setCell ⟨w.heap.size + 1, 0, none⟩ (.slice A3 l.length c3)).heap.size = W7.heap.size := by simp [World.setCell]
        clear start
        go_wp2_with fail
        have z9 : W7.heap.size < ((W7.setCell ⟨w.heap.size + 1, 0, none⟩ (.slice A3 l.length c3)).alloc (.cells #[ptr g] 37)).heap.size := by simp [World.setCell]
        generalize (W7.setCell ⟨w.heap.size + 1, 0, none⟩ (.slice A3 l.length c3)).alloc (.cells #[ptr g] 37) = W9 at *
        have hev : (∀ W, Fr [g] w W → (h.fin = none ∧ ev = .pointer none) ∨ ∃ fa fb, h.fin = some fa ∧ ev = ptr fb ∧ S fb ∧ W.cell? ⟨fb, 0, none⟩ = some (.int .i64 fa)) := fun W f => by
          rcases M0.out.fin with h1 | ⟨fa, fb, h1, h2, h3, h4⟩
          · exact .inl h1
          · exact .inr ⟨fa, fb, h1, h2, h3, (f.cell (p := ⟨fb, 0, none⟩) (M0.out.pub fb h3) (by simp; rintro rfl; exact M0.out.offg h3)).trans h4⟩
        refine wp_range_iter (σ := Int × Value × List (Pc × Value) × List Int) 96 #[.pointer (some ⟨W7.heap.size, 0, none⟩)] (by rfl) (enters_of Try.func96 (by kernel_rfl) rfl) rfl
          (fun r s W => DJ (fun b => S b ∨ (Value.slice A1 d.length c1).ownBlock = some b) w g w.heap.size W7.heap.size (w.heap.size + 1) (W9.heap.size + 1) W9.heap.size h.most kv ev r s.1 s.2.1 s.2.2.1 s.2.2.2 W)
          (a + d.length, kv, L, l)
          (TellRnd (fun b => S b ∨ (Value.slice A1 d.length c1).ownBlock = some b))
          (fun s => TellFin L.length (a + d.length) (L.map (·.1)) l s)
          (fun r r' s W j => j.put r') (fun r s W j => ⟨j.rcd, j.dfr⟩) Start.out ?round ?seq ?done
        case seq =>
          intro r hy W1 hj
          refine (ready1_any (fun b => S b ∨ (Value.slice A1 d.length c1).ownBlock = some b) (W9.heap.size + 1) g W7.heap.size h.most ev (fun n kv' L' out W => DJ (fun b => S b ∨ (Value.slice A1 d.length c1).ownBlock = some b) w g w.heap.size W7.heap.size (w.heap.size + 1) (W9.heap.size + 1) W9.heap.size h.most kv ev r n kv' L' out W)
            (fun n kv' L' out W j => j.seen) (fun n kv' L' out W W3 kv3 i j f k3 hn => j.iter f k3 hn) (fun n kv' L' out W W' j f => j.fr0 f) (fun n kv' L' out W p A' c' kv1 L1 W1 j1 hl1 j hb q0 q1 q2 q3 => ?_) (a + d.length) kv L l W1 hj).mono ?_
          · exact hy (n, kv', L', out) _ _ W j ⟨p, A', c', rfl, hb, q0, q1, q2, q3, by have := j1.olen; have := j1.seen.len; dsimp only; omega, rfl⟩
          · rintro e W' ⟨hv, kv', L', j, hL⟩
            exact ⟨hv, (_, kv', L', _), ⟨rfl, hL, rfl⟩, j⟩
        case done =>
          rintro r ⟨n', kv', L', out'⟩ W ⟨hn, hL, hout⟩ j
          dsimp only at hn hL hout j
          obtain ⟨oA, oc, o1, o2, o3⟩ := j.orow
          have o1c : W.cell? ⟨w.heap.size + 1, 0, none⟩ = some (.slice oA out'.length oc) := o1.cell 0
          have o1f := o1.frozen 0
          have o1l := o1.lt
          have J := Lib.hid j
          have O1 := Lib.hid o1
          have O2 := Lib.hid o2
          have O3 := Lib.hid o3
          have Hn := Lib.hid hn
          have HL := Lib.hid hL
          have Hout := Lib.hid hout
          clear o1 o2 o3 hn hL hout j
          go_wp2_with fail
          have z67 : W6.heap.size ≤ W7.heap.size := F7.out.size
          have z06 : w.heap.size ≤ W6.heap.size := (Ggf.out.trans F46.out (by simp)).size
          have fs := (Fr.refl [w.heap.size + 1] W).setCell (p := ⟨w.heap.size + 1, 0, none⟩) (.inl (by simp)) (.slice oA out'.length oc)
          have n1 := blk_def J.out.dfr O1.out
          have dfr := fr_at J.out.dfr fs (by simpa using fun e => n1 e.symm)
          have fp := fr_put (W.setCell ⟨w.heap.size + 1, 0, none⟩ (.slice oA out'.length oc)) W9.heap.size (.deferred none)
          have b8 : Blk (W.setCell ⟨w.heap.size + 1, 0, none⟩ (.slice oA out'.length oc)) (w.heap.size + 1) 25 #[.slice oA out'.length oc] := by simpa using O1.out.set_ 0 (.slice oA out'.length oc)
          have b9 := b8.fr fp (by simpa using n1)
          have hres : World.cell? _ ⟨w.heap.size + 1, 0, none⟩ = some (.slice oA out'.length oc) := b9.cell 0
          have fz : Fr [w.heap.size + 1, W9.heap.size] W _ := (fs.mono (by simp)).trans fp (by intro x hx; simp at hx; subst hx; exact .inl (by simp))
          have hn := Hn.out
          have hL := HL.out
          have hout := Hout.out
          rw [← M0.out.len, ← M0.out.kept] at hn hL hout
          rw [← hn, ← hL, ← hout]
          have hpost := tell_post (S' := fun b => S b ∨ (Value.slice A1 d.length c1).ownBlock = some b) M0.out (fun b h => .inl h) (fun b hb => hb.imp id (fun h => by have := HB1.out _ h; simp at this; omega)) J.out O1.out O2.out O3.out fz (by omega) (fun hs => by have := Gpub.out _ hs; have h8 := F46.out.size; omega)
          clear hn hL hout
          refine endM_ret (D := W9.heap.size) rfl dfr ?_ hpost
          clear hpost fz b9 b8 fs n1
          generalize (W.setCell ⟨w.heap.size + 1, 0, none⟩ (.slice oA out'.length oc)).putObj W9.heap.size (.deferred none) = Wz at *
          simp [results, Try.results78, go_sem, hres]
        case round =>
          rintro ⟨n, kv', L', out⟩ s' v W r r' j ⟨p, A', c', rfl, hb, q0, q1, q2, q3, q4, rfl⟩
          dsimp only at j q1 q4 ⊢
          generalize hO : out ++ (takeV n p).1 = out'
          have HO := Lib.hid hO
          have J := Lib.hid j
          have HB := Lib.hid hb
          clear hO j hb
          gi_wp2
          have fA : Fr [] W (W.alloc (bxp p.at_ (.slice A' p.d.length c'))) := (Fr.refl _ _).alloc _
          have bA := Blk.new W 120 #[.int .i64 p.at_, .slice A' p.d.length c']
          have j1 := J.out.fr0 fA
          refine ⟨j1, ?_⟩
          have fP := fr_put (W.alloc (bxp p.at_ (.slice A' p.d.length c'))) (W9.heap.size + 1) (.loop r')
          have j2 := j1.put r'
          have nl := blk_loop j1.rcd bA
          have b2 := bA.fr fP (by simpa using nl)
          have hb2 := (HB.out.fr fA (by simp)).fr fP (by intro x hx; simp only [List.mem_singleton] at hx; subst hx; exact j1.off.1)
          clear fA fP bA j1 nl
          generalize (W.alloc (bxp p.at_ (.slice A' p.d.length c'))).putObj (W9.heap.size + 1) (.loop r') = W2' at *
          obtain ⟨oA, oc, o1, o2, o3⟩ := j2.orow
          have e0 : W2'.cell? ⟨w.heap.size, 0, none⟩ = some (ptr g) := j2.hbx.cell 0
          have e1 : W2'.cell? ⟨w.heap.size + 1, 0, none⟩ = some (.slice oA out.length oc) := o1.cell 0
          have e2 : W2'.cell? ⟨W.heap.size, 0, none⟩ = some (.int .i64 p.at_) := b2.cell 0
          have e3 : W2'.cell? ⟨W.heap.size, 1, none⟩ = some (.slice A' p.d.length c') := b2.cell 1
          have htk := take_any _ W2' g h.most n kv' ev out oA oc p (.slice A' p.d.length c') j2.seen.blk o2 hb2 j2.seen.pub q0 q1 j2.seen.n1 q3 (by omega)
          rw [HO.out] at htk
          have tb := take_bd n p j2.seen.n0 j2.seen.n1 ⟨q2, q3⟩
          have tl : (takeV n p).1.length ≤ 64 := by unfold takeV; split <;> simp; omega
          have hol : out'.length ≤ 64 * (65 - L'.length) := by rw [← HO.out, List.length_append]; omega
          have hbo : (fun W3 => Fr (g :: ob (.slice oA out.length oc)) W2' W3 → Blk W3 (w.heap.size + 1) 25 #[.slice oA out.length oc]) = (fun W3 => Fr (g :: ob (.slice oA out.length oc)) W2' W3 → Blk W3 (w.heap.size + 1) 25 #[.slice oA out.length oc]) := rfl
          have nob : w.heap.size + 1 ∉ g :: ob (.slice oA out.length oc) := by
            intro hm
            rcases List.mem_cons.1 hm with hm | hm
            · exact blk_ne o1 j2.seen.blk (by decide) hm
            · exact own_ne o2 o1 (by decide) (mem_ob.1 hm)
          have Htk := Lib.hid htk
          have J2 := Lib.hid j2
          have O1 := Lib.hid o1
          have O2 := Lib.hid o2
          have O3 := Lib.hid o3
          have TB := Lib.hid tb
          have HOL := Lib.hid hol
          have NOB := Lib.hid nob
          clear htk j2 o1 o2 o3 tb hol hb2 b2 hbo tl nob
          gi_wp2_with fail
          refine ⟨trivial, ?_⟩
          refine (CallsIn.inRound _ (callsIn_wide.2 Htk.out)).mono ?_
          rintro e W3' ⟨A4, c4, rfl, own4, f4, blk4, new4⟩
          have b4 := O1.out.fr f4 NOB.out
          have e5 : W3'.cell? ⟨w.heap.size + 1, 0, none⟩ = some (.slice oA out.length oc) := b4.cell 0
          have e6 := b4.frozen 0
          have e7 := b4.lt
          have J4 := Lib.hid (J2.out.took oA oc O1.out O2.out O3.out f4 blk4 own4 new4 TB.out.1 TB.out.2.1 HOL.out)
          clear own4 f4 blk4 new4 b4
          gi_wp2_with fail
          exact J4.out
end Go.Proofs.Ytmgdbbbdhkfdmaa

namespace Go.Proofs.Ytmgdbbbdhkfdmaa
set_option maxRecDepth 100000
open Go.RowKit

theorem put_any {S : Nat → Prop} {w : World} {g : Nat} {kv : Value} {h : Hp} (m : HP S w g kv h) (hi : Inv h) (a : Int) (dv : Value) (d : List Int) (T : Nat → Prop) (hd : Byt T w dv d) (hl : d.length ≤ 1000000) :
    Calls Try.prog 78 #[ptr g, .int .i64 a, dv] w (PutPost S w g kv (putV h a d).1 (putV h a d).2.1 (putV h a d).2.2) := by
  have hlen : h.kept.length ≤ 64 := by have := hi.len; have := hi.m1; omega
  unfold putV
  by_cases h0 : a < 0
  · rw [if_pos (.inl h0)]
    exact put_arg0 m a dv d T hd hl h0
  by_cases h1 : 4611686018427387904 < a
  · rw [if_pos (.inr (.inl h1))]
    exact put_arg1 m a dv d T hd hl h1
  by_cases h2 : d.length < 1
  · rw [if_pos (.inr (.inr (.inl h2)))]
    exact put_arg2 m a dv d T hd hl (by omega) (by omega) h2
  by_cases h3 : 64 < d.length
  · rw [if_pos (.inr (.inr (.inr h3)))]
    exact put_arg3 m a dv d T hd hl (by omega) (by omega) (by omega) h3
  rw [if_neg (by omega)]
  by_cases h4 : past h.fin (a + d.length) = true
  · rw [if_pos h4]
    exact put_past m a dv d T hd hl (by omega) (by omega) (by omega) (by omega) h4
  rw [if_neg h4]
  have h4' : past h.fin (a + d.length) = false := by simpa using h4
  by_cases h5 : a + d.length ≤ h.next
  · rw [if_pos h5]
    exact put_low m a dv d T hd hl (by omega) (by omega) (by omega) (by omega) h4' h5
  rw [if_neg h5]
  by_cases h6 : a ≤ h.next
  · rw [if_pos h6]
    exact put_tell m a dv d T hd hl (by omega) (by omega) (by omega) (by omega) h4' h6 (by omega) hi
  rw [if_neg h6]
  by_cases h7 : h.kept.any (longer a d.length) = true
  · rw [if_pos h7]
    exact put_longer m a dv d T hd hl (by omega) (by omega) (by omega) (by omega) h4' (by omega) h7 hlen
  rw [if_neg h7]
  have h7' : h.kept.any (longer a d.length) = false := by simpa using h7
  by_cases h8 : h.most ≤ h.kept.length
  · rw [if_pos h8]
    exact put_full m a dv d T hd hl (by omega) (by omega) (by omega) (by omega) h4' (by omega) h7' hlen h8
  rw [if_neg h8]
  exact put_app m a dv d T hd hl (by omega) (by omega) (by omega) (by omega) h4' (by omega) h7' hlen (by omega)
end Go.Proofs.Ytmgdbbbdhkfdmaa
