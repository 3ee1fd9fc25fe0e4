import Derived.Test.YtdlmhadcaagokaaFc
import Derived.Test.YtdlmhadcaagokaaVb
import Derived.Deep.DeepCutAuto
namespace Go.Proofs.Ytdlmhadcaagokaa
open Go.RowKit Go.Deep Go.Shelf

theorem HP.ne {S : Nat → Prop} {w : World} {g b : Nat} {kv : Value} {h : Hp} {t : TypeId} {cs : Array Value} (m : HP S w g kv h) (B : Blk w b t cs) (n1 : t ≠ 58) (n2 : 67 ≠ t) : b ∉ g :: ob kv := fun hm => by
  obtain ⟨ev, L, m⟩ := m
  rcases List.mem_cons.1 hm with h1 | h1
  · exact blk_ne B m.blk n1 h1
  · exact own_ne m.kp.own B n2 (mem_ob.1 h1)
theorem HP.neo {S : Nat → Prop} {w : World} {g n : Nat} {kv v : Value} {h : Hp} {xs : List Value} (m : HP S w g kv h) (o : w.ownsRow 0 5 1 v n xs) : ∀ b ∈ ob v, b ∉ g :: ob kv := fun b hb hm => by
  obtain ⟨ev, L, m⟩ := m
  rcases List.mem_cons.1 hm with rfl | h1
  · exact own_ne o m.blk (by decide) (mem_ob.1 hb)
  · exact own_ne2 o m.kp.own (by decide) (mem_ob.1 hb) (mem_ob.1 h1)
/-- What stands between the calls of the law's closure. -/
structure TR (w : World) (S : Nat → Prop) (g : Nat) (kv : Value) (bm bt bh bn bo : Nat) (tv : Value) (txt : List Int) (most : Int) (h : Hp) (out : List Int) (ov : Value) (wr : World) : Prop where
  hp : HP S wr g kv h
  cm : Blk wr bm 3 #[.int .i64 most]
  ct : Blk wr bt 35 #[tv]
  ch : Blk wr bh 25 #[ptr g]
  cn : Blk wr bn 3 #[.int .i64 txt.length]
  co : Blk wr bo 35 #[ov]
  own : wr.ownsRow 0 5 1 ov out.length (byts out)
  byt : Byt (fun b => b < w.heap.size) wr tv txt
  fr : Fr [] w wr
  pub : ∀ b, b < w.heap.size → S b
  nS : ∀ x, (x = bm ∨ x = bt ∨ x = bh ∨ x = bn ∨ x = bo ∨ x ∈ ob ov) → ¬ S x
  lo : ∀ x ∈ g :: ob kv, w.heap.size ≤ x
  ntb : bt ≠ bo
section
variable {w wr W0 w5 w6 w7 : World} {S S5 : Nat → Prop} {g : Nat} {kv kv5 : Value} {bm bt bh bn bo : Nat} {tv : Value} {txt : List Int} {most : Int} {h y : Hp} {out o5 : List Int} {ov ov7 : Value}
theorem TR.fr' (t : TR w S g kv bm bt bh bn bo tv txt most h out ov wr) (f : Fr [] wr w5) : TR w S g kv bm bt bh bn bo tv txt most h out ov w5 :=
  ⟨t.hp.fr f, t.cm.fr f (by simp), t.ct.fr f (by simp), t.ch.fr f (by simp), t.cn.fr f (by simp), t.co.fr f (by simp), own_fr t.own f (by simp), t.byt.fr f (by simp), t.fr.trans f (by simp), t.pub, t.nS, t.lo, t.ntb⟩
theorem TR.put (t : TR w S g kv bm bt bh bn bo tv txt most h out ov wr) (x5 : Ext wr S S5) (m5 : HP S5 w5 g kv5 y) (f5 : Fr (g :: ob kv) wr w5) (n5 : ∀ b, kv5.ownBlock = some b → kv.ownBlock = some b ∨ wr.heap.size ≤ b) : TR w S5 g kv5 bm bt bh bn bo tv txt most y out ov w5 := by
  have hz := t.fr.size
  refine ⟨m5, t.cm.fr f5 (t.hp.ne t.cm (by decide) (by decide)), t.ct.fr f5 (t.hp.ne t.ct (by decide) (by decide)), t.ch.fr f5 (t.hp.ne t.ch (by decide) (by decide)), t.cn.fr f5 (t.hp.ne t.cn (by decide) (by decide)), t.co.fr f5 (t.hp.ne t.co (by decide) (by decide)),
    own_fr t.own f5 (fun b hb => t.hp.neo t.own b (mem_ob.2 hb)), t.byt.fr f5 (fun x hx hs => by have := t.lo x hx; omega), t.fr.trans f5 (fun x hx => .inr (t.lo x hx)), fun b hb => x5.1 b (t.pub b hb), fun x hx hs => ?_, fun x hx => ?_, t.ntb⟩
  · rcases x5.2 x hs with h1 | h1
    · exact t.nS x hx h1
    · have : x < wr.heap.size := by
        rcases hx with rfl | rfl | rfl | rfl | rfl | hx
        · exact t.cm.lt
        · exact t.ct.lt
        · exact t.ch.lt
        · exact t.cn.lt
        · exact t.co.lt
        · exact own_lt t.own (mem_ob.1 hx)
      omega
  · rcases List.mem_cons.1 hx with rfl | hx
    · exact t.lo _ (by simp)
    · rcases n5 x (mem_ob.1 hx) with h1 | h1
      · exact t.lo x (List.mem_cons_of_mem _ (mem_ob.2 h1))
      · omega
theorem TR.app (t : TR w S g kv bm bt bh bn bo tv txt most h out ov wr) (own : w5.ownsRow 0 5 1 ov7 (out ++ o5).length (byts (out ++ o5))) (f : Fr (ob ov) wr w5) (n : ∀ b, ov7.ownBlock = some b → ov.ownBlock = some b ∨ wr.heap.size ≤ b) : TR w S g kv bm bt bh bn bo tv txt most h (out ++ o5) ov7 (w5.setCell ⟨bo, 0, none⟩ ov7) := by
  have nb : bo ∉ ob ov := fun hm => own_ne t.own t.co (by decide) (mem_ob.1 hm)
  have co5 := t.co.fr f nb
  have f6 : Fr [bo] w5 (w5.setCell ⟨bo, 0, none⟩ ov7) := (Fr.refl [bo] w5).setCell (p := ⟨bo, 0, none⟩) (.inl (by simp)) ov7
  have F : Fr (ob ov ++ [bo]) wr (w5.setCell ⟨bo, 0, none⟩ ov7) := (f.mono (fun x hx => List.mem_append_left _ hx)).trans f6 (fun x hx => .inl (List.mem_append_right _ hx))
  have hO : ∀ x ∈ ob ov ++ [bo], ¬ S x := fun x hx => by
    rcases List.mem_append.1 hx with hx | hx
    · exact t.nS x (.inr (.inr (.inr (.inr (.inr hx)))))
    · simp at hx; exact t.nS x (.inr (.inr (.inr (.inr (.inl hx)))))
  have hn : ∀ {b : Nat} {ty : TypeId} {cs : Array Value}, Blk wr b ty cs → ty ≠ 5 → b ≠ bo → b ∉ ob ov ++ [bo] := fun B h1 h2 hm => by
    rcases List.mem_append.1 hm with hm | hm
    · exact own_ne t.own B (fun e => h1 e.symm) (mem_ob.1 hm)
    · simp at hm; exact h2 hm
  have hz := t.fr.size
  have hpp := t.hp.pub
  refine ⟨t.hp.extO F (Ext.refl wr S) hO (fun x hx hm => ?_) (fun b hb => Nat.lt_of_lt_of_le (hpp b hb) F.size), t.cm.fr F (hn t.cm (by decide) (blk_ne t.cm t.co (by decide))), t.ct.fr F (hn t.ct (by decide) t.ntb), t.ch.fr F (hn t.ch (by decide) (blk_ne t.ch t.co (by decide))), t.cn.fr F (hn t.cn (by decide) (blk_ne t.cn t.co (by decide))),
    by simpa using co5.set_ 0 ov7, own_fr own f6 (fun b hb hm => by simp at hm; subst hm; exact own_ne own co5 (by decide) hb), t.byt.fr F (fun x hx hs => hO x hx (t.pub x hs)), t.fr.trans F (fun x hx => .inr ?_), t.pub, fun x hx => ?_, t.lo, t.ntb⟩
  · rcases List.mem_append.1 hm with hm | hm
    · exact t.hp.neo t.own x hm hx
    · simp at hm; subst hm; exact t.hp.ne t.co (by decide) (by decide) hx
  · rcases Nat.lt_or_ge x w.heap.size with h1 | h1
    · exact absurd (t.pub x h1) (hO x hx)
    · exact h1
  · rcases hx with h1 | h1 | h1 | h1 | h1 | h1
    · exact t.nS x (.inl h1)
    · exact t.nS x (.inr (.inl h1))
    · exact t.nS x (.inr (.inr (.inl h1)))
    · exact t.nS x (.inr (.inr (.inr (.inl h1))))
    · exact t.nS x (.inr (.inr (.inr (.inr (.inl h1)))))
    · rcases n x (mem_ob.1 h1) with h2 | h2
      · exact t.nS x (.inr (.inr (.inr (.inr (.inr (mem_ob.2 h2))))))
      · intro hs; have := hpp x hs; omega
end
end Go.Proofs.Ytdlmhadcaagokaa
