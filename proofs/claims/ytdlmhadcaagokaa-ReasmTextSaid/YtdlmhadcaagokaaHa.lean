import Derived.Test.YtdlmhadcaagokaaF
namespace Go.Proofs.Ytdlmhadcaagokaa
open Go.RowKit

/-- Between two rounds of the range over what is ready. -/
structure DJ (S : Nat → Prop) (w : World) (g hx hb ob' l D : Nat) (m : Int) (kv0 ev : Value) (rec : Loop) (n : Int) (kv : Value) (L : List (Pc × Value)) (out : List Int) (W : World) : Prop where
  fr : Fr [g] w W
  seen : Seen S g hb m n kv ev L W
  hbx : Blk W hx 25 #[ptr g]
  hbb : Blk W hb 25 #[ptr g]
  orow : ∃ oA oc, Blk W ob' 35 #[.slice oA out.length oc] ∧ W.ownsRow 0 5 1 (.slice oA out.length oc) out.length (byts out) ∧ (∀ b, (Value.slice oA out.length oc).ownBlock = some b → w.heap.size ≤ b ∧ ¬ S b)
  offk : ∀ b, kv.ownBlock = some b → ¬ S b ∧ (kv0.ownBlock = some b ∨ w.heap.size ≤ b)
  olen : out.length ≤ 64 * (65 - L.length)
  rcd : W.heap[l]? = some (.loop rec)
  dfr : W.heap[D]? = some (.deferred (some []))
  old : w.heap.size ≤ ob' ∧ w.heap.size ≤ l ∧ D ≠ l
  off : ¬ S l ∧ ¬ S ob'
section
variable {S : Nat → Prop} {w W W' : World} {g hx hb ob' l D : Nat} {m n : Int} {kv0 kv ev : Value} {rec rec' : Loop} {L : List (Pc × Value)} {out : List Int} {O : List Nat}
theorem fr_at {o : Obj} {k : Nat} (h : W.heap[k]? = some o) (f : Fr O W W') (hk : k ∉ O) : W'.heap[k]? = some o := (f.block k (Array.getElem?_eq_some_iff.1 h).1 hk).trans h
theorem blk_loop {t : TypeId} {cs : Array Value} {k : Nat} (h : W.heap[k]? = some (.loop rec)) (b : Blk W g t cs) : g ≠ k := by
  rintro rfl
  unfold Blk at b
  rw [h] at b
  cases b
theorem blk_def {t : TypeId} {cs : Array Value} {k : Nat} {x : Option (List Deferred)} (h : W.heap[k]? = some (.deferred x)) (b : Blk W g t cs) : g ≠ k := by
  rintro rfl
  unfold Blk at b
  rw [h] at b
  cases b
theorem own_loop {e : TypeId} {size k n : Nat} {v : Value} {xs : List Value} {b : Nat} (h : W.heap[k]? = some (.loop rec)) (o : W.ownsRow 0 e size v n xs) (hb : v.ownBlock = some b) : b ≠ k := by
  rcases o.2 with ⟨rfl, _⟩ | ⟨g, cap, cur, rfl, _, hg, _⟩
  · simp [Value.ownBlock] at hb
  · have : g = b := by simpa [Value.ownBlock] using hb
    subst this
    exact blk_loop (g := g) (t := e) (cs := cur) h hg
theorem own_def {e : TypeId} {size k n : Nat} {v : Value} {xs : List Value} {b : Nat} {x : Option (List Deferred)} (h : W.heap[k]? = some (.deferred x)) (o : W.ownsRow 0 e size v n xs) (hb : v.ownBlock = some b) : b ≠ k := by
  rcases o.2 with ⟨rfl, _⟩ | ⟨g, cap, cur, rfl, _, hg, _⟩
  · simp [Value.ownBlock] at hb
  · have : g = b := by simpa [Value.ownBlock] using hb
    subst this
    exact blk_def (g := g) (t := e) (cs := cur) h hg
theorem fr_put (W : World) (l : Nat) (o : Obj) : Fr [l] W (W.putObj l o) :=
  ⟨rfl, rfl, rfl, by simp, fun i hi hn => World.putObj_heap_other (by simpa using hn)⟩

theorem Seen.fr (h : Seen S g hb m n kv ev L W) (b : Blk W hb 25 #[ptr g]) (f : Fr O W W') (hg : g ∉ O) (hh : hb ∉ O) (hS : ∀ x ∈ O, ¬ S x) (hk : ∀ b, kv.ownBlock = some b → b ∉ O) : Seen S g hb m n kv ev L W' :=
  ⟨h.blk.fr f hg, h.kp.fr f hS hk, (b.fr f hh).cell 0, fun b hb => Nat.lt_of_lt_of_le (h.pub b hb) f.size, h.offg, h.pc, h.n0, h.n1, h.len⟩
theorem DJ.fr0 (j : DJ S w g hx hb ob' l D m kv0 ev rec n kv L out W) (f : Fr [] W W') : DJ S w g hx hb ob' l D m kv0 ev rec n kv L out W' := by
  obtain ⟨oA, oc, o1, o2, o3⟩ := j.orow
  exact ⟨j.fr.trans f (by simp), j.seen.fr j.hbb f (by simp) (by simp) (by simp) (by simp), j.hbx.fr f (by simp), j.hbb.fr f (by simp), ⟨oA, oc, o1.fr f (by simp), own_fr o2 f (by simp), o3⟩, j.offk, j.olen, fr_at j.rcd f (by simp), fr_at j.dfr f (by simp), j.old, j.off⟩
theorem DJ.put (j : DJ S w g hx hb ob' l D m kv0 ev rec n kv L out W) (rec' : Loop) : DJ S w g hx hb ob' l D m kv0 ev rec' n kv L out (W.putObj l (.loop rec')) := by
  obtain ⟨oA, oc, o1, o2, o3⟩ := j.orow
  have f := fr_put W l (.loop rec')
  have hlt : l < W.heap.size := (Array.getElem?_eq_some_iff.1 j.rcd).1
  have hl : w.heap.size ≤ l := j.old.2.1
  refine ⟨j.fr.trans f (by intro x hx; simp at hx; subst hx; exact .inr hl), j.seen.fr j.hbb f ?_ ?_ ?_ ?_, j.hbx.fr f ?_, j.hbb.fr f ?_, ⟨oA, oc, o1.fr f ?_, own_fr o2 f ?_, o3⟩, j.offk, j.olen, World.putObj_heap_same hlt, fr_at j.dfr f (by simpa using j.old.2.2), j.old, j.off⟩
  · simpa using blk_loop j.rcd j.seen.blk
  · simpa using blk_loop j.rcd j.hbb
  · intro x hx hs
    simp at hx
    subst hx
    exact j.off.1 hs
  · intro b hb'
    simpa using own_loop j.rcd j.seen.kp.own hb'
  · simpa using blk_loop j.rcd j.hbx
  · simpa using blk_loop j.rcd j.hbb
  · simpa using blk_loop j.rcd o1
  · intro b hb'
    simpa using own_loop j.rcd o2 hb'
/-- The loop is entered. -/
theorem dj_start {oA : Option Addr} {oc : Nat} (rec : Loop) (hfr : Fr [g] w W) (seen : Seen S g hb m n kv ev L W) (hbx : Blk W hx 25 #[ptr g]) (hbb : Blk W hb 25 #[ptr g])
    (o1 : Blk W ob' 35 #[.slice oA out.length oc]) (o2 : W.ownsRow 0 5 1 (.slice oA out.length oc) out.length (byts out)) (o3 : ∀ b, (Value.slice oA out.length oc).ownBlock = some b → w.heap.size ≤ b ∧ ¬ S b)
    (offk : ∀ b, kv.ownBlock = some b → ¬ S b ∧ (kv0.ownBlock = some b ∨ w.heap.size ≤ b)) (olen : out.length ≤ 64 * (65 - L.length)) (old : w.heap.size ≤ ob') (off : ¬ S ob') :
    DJ S w g hx hb ob' (W.heap.size + 1) W.heap.size m kv0 ev rec n kv L out ((W.alloc (.deferred (some []))).alloc (.loop rec)) := by
  have f : Fr [] W ((W.alloc (.deferred (some []))).alloc (.loop rec)) := ((Fr.refl _ _).alloc _).alloc _
  have hz := hfr.size
  refine ⟨hfr.trans f (by simp), seen.fr hbb f (by simp) (by simp) (by simp) (by simp), hbx.fr f (by simp), hbb.fr f (by simp), ⟨oA, oc, o1.fr f (by simp), own_fr o2 f (by simp), o3⟩, offk, olen, ?_, ?_, ⟨old, by omega, by omega⟩, ⟨fun hs => ?_, off⟩⟩
  · have := World.alloc_heap_new (W.alloc (.deferred (some []))) (.loop rec)
    rwa [World.size_alloc] at this
  · exact (Below.heap_alloc _ _ _ (by simp)).trans (World.alloc_heap_new W _)
  · have := seen.pub _ hs
    omega
/-- The same, out of what stands behind the first piece. -/
theorem tell_start {S S' : Nat → Prop} {w W6 W7 : World} {g : Nat} {kv ev : Value} {h : Hp} {L : List (Pc × Value)} {l : List Int} {A3 : Option Addr} {c3 : Nat} {n1 : Int} (rec : Loop) (m : HPx S w g kv ev h L) (hI : Inv h) (hS1 : ∀ b, S b → S' b) (hS2 : ∀ b, S' b → S b ∨ w.heap.size + 2 ≤ b)
    (f06 : Fr [] w W6) (m6 : HPx S W6 g kv ev h L) (pub6 : ∀ b, S' b → b < W6.heap.size) (hbx6 : Blk W6 w.heap.size 25 #[ptr g]) (bo6 : Blk W6 (w.heap.size + 1) 35 #[.slice none 0 0])
    (f7 : Fr [g] W6 W7) (blk7 : Blk W7 g 58 (hpa h.most n1 kv ev)) (own7 : W7.ownsRow 0 5 1 (.slice A3 l.length c3) l.length (byts l)) (fr7 : ∀ b, (Value.slice A3 l.length c3).ownBlock = some b → W6.heap.size ≤ b ∧ b < W7.heap.size)
    (h0 : 0 ≤ n1) (h1 : n1 ≤ 4611686018427387968) (hl : l.length ≤ 64) :
    DJ S' w g w.heap.size W7.heap.size (w.heap.size + 1) (((W7.setCell ⟨w.heap.size + 1, 0, none⟩ (.slice A3 l.length c3)).alloc (.cells #[ptr g] 25)).heap.size + 1) ((W7.setCell ⟨w.heap.size + 1, 0, none⟩ (.slice A3 l.length c3)).alloc (.cells #[ptr g] 25)).heap.size h.most kv ev rec n1 kv L l
      ((((W7.setCell ⟨w.heap.size + 1, 0, none⟩ (.slice A3 l.length c3)).alloc (.cells #[ptr g] 25)).alloc (.deferred (some []))).alloc (.loop rec)) := by
  have hg := m.blk.lt
  have z6 := f06.size
  have z7 := f7.size
  have hS' : ¬ S' (w.heap.size + 1) := fun hs => by
    rcases hS2 _ hs with h2 | h2
    · have := m.pub _ h2; omega
    · omega
  have hSg : ¬ S' g := fun hs => by
    rcases hS2 _ hs with h2 | h2
    · exact m.offg h2
    · omega
  have e1 := blk_ne bo6 m6.blk (by decide)
  have e2 := blk_ne hbx6 m6.blk (by decide)
  have bo7 := bo6.fr f7 (by simpa using e1)
  have bh7 := hbx6.fr f7 (by simpa using e2)
  have hO7 : ∀ x ∈ [g], ¬ S' x := by intro x hx; simp at hx; subst hx; exact hSg
  have kp7 := (m6.kp.mono hS1).fr f7 hO7 (fun b hb => by simp; rintro rfl; exact own_ne m6.kp.own m6.blk (by decide) hb)
  have fs := (Fr.refl [w.heap.size + 1] W7).setCell (p := ⟨w.heap.size + 1, 0, none⟩) (.inl (by simp)) (.slice A3 l.length c3)
  have hsz8 : (W7.setCell ⟨w.heap.size + 1, 0, none⟩ (.slice A3 l.length c3)).heap.size = W7.heap.size := by simp [World.setCell]
  have bo8 : Blk (W7.setCell ⟨w.heap.size + 1, 0, none⟩ (.slice A3 l.length c3)) (w.heap.size + 1) 35 #[.slice A3 l.length c3] := by simpa using bo7.set_ 0 (.slice A3 l.length c3)
  have bg8 := blk7.fr fs (by simpa using blk_ne blk7 bo7 (by decide))
  have bh8 := bh7.fr fs (by simp)
  have own8 := own_fr own7 fs (fun b hb => by simp; rintro rfl; exact own_ne own7 bo7 (by decide) hb)
  have f8 : Fr [g] w (W7.setCell ⟨w.heap.size + 1, 0, none⟩ (.slice A3 l.length c3)) := ((f06.mono (by simp : ∀ x ∈ ([] : List Nat), x ∈ [g])).trans f7 (fun x hx => .inl hx)).trans fs (by intro x hx; simp at hx; subst hx; exact .inr (by omega))
  have kp8 := kp7.fr fs (by intro x hx; simp at hx; subst hx; exact hS') (fun b hb => by simp; rintro rfl; exact own_ne kp7.own bo7 (by decide) hb)
  have bb9 := Blk.new (W7.setCell ⟨w.heap.size + 1, 0, none⟩ (.slice A3 l.length c3)) 25 #[ptr g]
  rw [hsz8] at bb9
  have fa := (Fr.refl [] (W7.setCell ⟨w.heap.size + 1, 0, none⟩ (.slice A3 l.length c3))).alloc (.cells #[ptr g] 25)
  have hLl : L.length ≤ 64 := by have h2 := hI.len; have h3 := hI.m1; rw [m.len] at h2; omega
  refine dj_start rec (f8.trans fa (by simp)) ⟨bg8.fr fa (by simp), kp8.fr fa (by simp) (by simp), bb9.cell 0, fun b hb => ?_, hSg, fun x hx => hI.pc x.1 (by rw [m.kept]; exact List.mem_map.2 ⟨x, hx, rfl⟩), h0, h1, hLl⟩ (bh8.fr fa (by simp)) bb9 (bo8.fr fa (by simp)) (own_fr own8 fa (by simp)) (fun b hb => ?_) (fun b hb => ⟨fun hs => ?_, .inl hb⟩) (by omega) (Nat.le_succ _) hS'
  · have h2 := pub6 b hb
    have h3 := fa.size
    rw [hsz8] at h3
    omega
  · have h2 := fr7 b hb
    refine ⟨by omega, fun hs => ?_⟩
    have h3 := pub6 b hs
    omega
  · have h2 := own_lt m.kp.own hb
    rcases hS2 b hs with h3 | h3
    · exact m.offk b hb h3
    · omega
/-- The iterator has taken one out. -/
theorem DJ.iter {W3 : World} {kv3 : Value} {i : Nat} (j : DJ S w g hx hb ob' l D m kv0 ev rec n kv L out W) (f : Fr [] W W3) (k3 : Kp 67 S W3 kv3 (L.eraseIdx i)) (hn : ∀ b, kv3.ownBlock = some b → W.heap.size ≤ b) :
    DJ S w g hx hb ob' l D m kv0 ev rec n kv3 (L.eraseIdx i) out (W3.setCell ⟨g, 2, none⟩ kv3) := by
  have j3 := j.fr0 f
  have f2 := (Fr.refl [g] W3).setCell (p := ⟨g, 2, none⟩) (.inl (by simp)) kv3
  obtain ⟨oA, oc, o1, o2, o3⟩ := j3.orow
  have hs : ∀ x ∈ [g], ¬ S x := by intro x hx; simp at hx; subst hx; exact j.seen.offg
  have hW := j.fr.size
  have hbk : Blk (W3.setCell ⟨g, 2, none⟩ kv3) g 58 (hpa m n kv3 ev) := by simpa using j3.seen.blk.set_ 2 kv3
  have e1 : ∀ b, kv3.ownBlock = some b → b ∉ [g] := fun b hb' => by
    simp
    rintro rfl
    exact own_ne k3.own j3.seen.blk (by decide) hb'
  refine ⟨j3.fr.trans f2 (by simp), ⟨hbk, k3.fr f2 hs e1, (j3.hbb.fr f2 ?_).cell 0, fun b hb' => Nat.lt_of_lt_of_le (j3.seen.pub b hb') f2.size, j.seen.offg, fun x hx => j.seen.pc x (List.mem_of_mem_eraseIdx hx), j.seen.n0, j.seen.n1, Nat.le_trans (List.length_eraseIdx_le _ _) j.seen.len⟩,
    j3.hbx.fr f2 ?_, j3.hbb.fr f2 ?_, ⟨oA, oc, o1.fr f2 ?_, own_fr o2 f2 ?_, o3⟩, ?_, ?_, fr_at j3.rcd f2 ?_, fr_at j3.dfr f2 ?_, j.old, j.off⟩
  · simpa using blk_ne j3.hbb j3.seen.blk (by decide)
  · simpa using blk_ne j3.hbx j3.seen.blk (by decide)
  · simpa using blk_ne j3.hbb j3.seen.blk (by decide)
  · simpa using blk_ne o1 j3.seen.blk (by decide)
  · intro b hb'
    simp
    rintro rfl
    exact own_ne o2 j3.seen.blk (by decide) hb'
  · intro b hb'
    have h1 := hn b hb'
    refine ⟨fun h2 => ?_, .inr (by omega)⟩
    have := j.seen.pub b h2
    omega
  · have h1 := j.olen
    have h2 := List.length_eraseIdx_le L i
    have h3 : 64 * (65 - L.length) ≤ 64 * (65 - (L.eraseIdx i).length) := Nat.mul_le_mul_left _ (by omega)
    omega
  · simpa using fun e => blk_loop j3.rcd j3.seen.blk e.symm
  · simpa using fun e => blk_def j3.dfr j3.seen.blk e.symm
/-- A round has told a piece. -/
theorem DJ.took {W3 : World} {n' : Int} {out' : List Int} {A : Option Addr} {c : Nat} (j : DJ S w g hx hb ob' l D m kv0 ev rec n kv L out W) (oA : Option Addr) (oc : Nat) (o1 : Blk W ob' 35 #[.slice oA out.length oc]) (o2 : W.ownsRow 0 5 1 (.slice oA out.length oc) out.length (byts out))
    (o3 : ∀ b, (Value.slice oA out.length oc).ownBlock = some b → w.heap.size ≤ b ∧ ¬ S b)
    (f : Fr (g :: ob (.slice oA out.length oc)) W W3) (hbk : Blk W3 g 58 (hpa m n' kv ev)) (hown : W3.ownsRow 0 5 1 (.slice A out'.length c) out'.length (byts out'))
    (hnew : ∀ b, (Value.slice A out'.length c).ownBlock = some b → (Value.slice oA out.length oc).ownBlock = some b ∨ (W.heap.size ≤ b ∧ b < W3.heap.size)) (h0 : 0 ≤ n') (h1 : n' ≤ 4611686018427387968) (hol : out'.length ≤ 64 * (65 - L.length)) :
    DJ S w g hx hb ob' l D m kv0 ev rec n' kv L out' (W3.setCell ⟨ob', 0, none⟩ (.slice A out'.length c)) := by
  have hW := j.fr.size
  have a1 : ∀ x ∈ g :: ob (.slice oA out.length oc), ¬ S x := by
    intro x hx
    rcases List.mem_cons.1 hx with rfl | hx
    · exact j.seen.offg
    · exact (o3 x (mem_ob.1 hx)).2
  have a2 : ∀ {t : TypeId} {cs : Array Value} {k : Nat}, Blk W k t cs → t ≠ 58 → t ≠ 5 → k ∉ g :: ob (.slice oA out.length oc) := by
    intro t cs k hk h2 h3 hm
    rcases List.mem_cons.1 hm with rfl | hx
    · exact blk_ne hk j.seen.blk h2 rfl
    · exact own_ne o2 hk (Ne.symm h3) (mem_ob.1 hx)
  have f1 : Fr [g] w W3 := j.fr.trans f (by
    intro x hx
    rcases List.mem_cons.1 hx with rfl | hx
    · exact .inl (by simp)
    · exact .inr (o3 x (mem_ob.1 hx)).1)
  have b1 := o1.fr f (a2 o1 (by decide) (by decide))
  have b2 := j.hbx.fr f (a2 j.hbx (by decide) (by decide))
  have b3 := j.hbb.fr f (a2 j.hbb (by decide) (by decide))
  have r1 := fr_at j.rcd f (by
    intro hm
    rcases List.mem_cons.1 hm with rfl | hx
    · exact blk_loop j.rcd j.seen.blk rfl
    · exact own_loop j.rcd o2 (mem_ob.1 hx) rfl)
  have r2 := fr_at j.dfr f (by
    intro hm
    rcases List.mem_cons.1 hm with rfl | hx
    · exact blk_def j.dfr j.seen.blk rfl
    · exact own_def j.dfr o2 (mem_ob.1 hx) rfl)
  have kp3 := j.seen.kp.fr f a1 (by
    intro b hb' hm
    rcases List.mem_cons.1 hm with rfl | hx
    · exact own_ne j.seen.kp.own j.seen.blk (by decide) hb'
    · exact own_ne2 j.seen.kp.own o2 (by decide) hb' (mem_ob.1 hx))
  have f2 := (Fr.refl [ob'] W3).setCell (p := ⟨ob', 0, none⟩) (.inl (by simp)) (.slice A out'.length c)
  have hS2 : ∀ x ∈ [ob'], ¬ S x := by intro x hx; simp at hx; subst hx; exact j.off.2
  have nk : ∀ b, kv.ownBlock = some b → b ∉ [ob'] := fun b hb' => by
    simp
    rintro rfl
    exact own_ne kp3.own b1 (by decide) hb'
  refine ⟨f1.trans f2 (by intro x hx; simp at hx; subst hx; exact .inr j.old.1), ⟨hbk.fr f2 ?_, kp3.fr f2 hS2 nk, (b3.fr f2 ?_).cell 0, fun b hb' => Nat.lt_of_lt_of_le (j.seen.pub b hb') (Nat.le_trans f.size f2.size), j.seen.offg, j.seen.pc, h0, h1, j.seen.len⟩,
    b2.fr f2 ?_, b3.fr f2 ?_, ⟨A, c, ?_, own_fr hown f2 ?_, ?_⟩, j.offk, hol, fr_at r1 f2 ?_, fr_at r2 f2 ?_, j.old, j.off⟩
  · simpa using blk_ne hbk b1 (by decide)
  · simpa using blk_ne b3 b1 (by decide)
  · simpa using blk_ne b2 b1 (by decide)
  · simpa using blk_ne b3 b1 (by decide)
  · simpa using b1.set_ 0 (.slice A out'.length c)
  · intro b hb'
    simp
    rintro rfl
    exact own_ne hown b1 (by decide) hb'
  · intro b hb'
    rcases hnew b hb' with h2 | ⟨h2, _⟩
    · exact o3 b h2
    · refine ⟨by omega, fun hs => ?_⟩
      have := j.seen.pub b hs
      omega
  · simpa using fun e => blk_loop r1 b1 e.symm
  · simpa using fun e => blk_def r2 b1 e.symm
end
end Go.Proofs.Ytdlmhadcaagokaa
