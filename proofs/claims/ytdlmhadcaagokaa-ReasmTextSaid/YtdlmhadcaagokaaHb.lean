import Derived.Test.YtdlmhadcaagokaaHa
import Derived.Test.YtdlmhadcaagokaaG
namespace Go.Proofs.Ytdlmhadcaagokaa
open Go.RowKit Go.Shelf

/-- The post of a function's body that holds a range over a function. -/
def endM (P : Program) (fn : Func) (R : Ending → World → Prop) : Exit → Act → World → Prop := bodyPostM Fence.wide 5 P fn R
theorem calls_of_marks {P : Program} {f : FuncId} {fn : Func} {c : Code} {args : Array Value} {w : World} {R : Ending → World → Prop} (hf : P.funcs[f]? = some fn) (hb : fn.body = some c)
    (h : c.wp P (endM P fn R) { tmps := args ++ Array.replicate (fn.ntmps - args.size) undef, defers := [] } w) : Calls P f args w R :=
  callsIn_wide.1 (callsIn_of_wp_marks hf hb trivial (wpIn_wide.2 h) rfl)
theorem endM_ret {P : Program} {fn : Func} {R : Ending → World → Prop} {a : Act} {w : World} {D : Nat} {v : Value} (hd : a.defers = [{ target := .collected D, args := #[] }]) (hK : w.heap[D]? = some (.deferred (some [])))
    (hr : (results fn a.tmps).run P (w.putObj D (.deferred none)) = .ok v (w.putObj D (.deferred none))) (hR : R (.returned v) (w.putObj D (.deferred none))) : endM P fn R .ret a w := by
  unfold endM bodyPostM
  dsimp only
  rw [hd]
  refine ⟨by simp, .inl ⟨_, _, rfl, run_takeDeferred hK, ?_⟩⟩
  exact ⟨_, hr, hR⟩
/-- How a round's body is left. -/
def rndPost (R : World → Prop) : Exit → Act → World → Prop
  | .normal, _, w => R w
  | _, _, _ => False

/-- A range over a function, its iterator's contract and the rounds' over one invariant. -/
theorem wp_range_iter {P : Program} {σ : Type} {g : Operand} {ps : Array Tmp} {assign body : Code} {Q : Exit → Act → World → Prop} {a : Act} {w : World} (gf : Nat) (lb : Array Value)
    (hg : a.eval g = .func (.func gf) #[] lb) (eg : ∀ args w, (callFunc gf args).run P w = .ok (.enter gf args) w) (hps : ps.size = 1)
    (J : Loop → σ → World → Prop) (s0 : σ) (Rnd : σ → σ → Value → World → Prop) (Fin : σ → Prop)
    (hput : ∀ r r' s W, J r s W → J r' s (W.putObj (w.heap.size + 1) (.loop r')))
    (hrcd : ∀ r s W, J r s W → W.heap[w.heap.size + 1]? = some (.loop r) ∧ W.heap[w.heap.size]? = some (.deferred (some [])))
    (hstart : ∀ r, J r s0 ((w.alloc (.deferred (some []))).alloc (.loop r)))
    (hround : ∀ s s' v W r r', J r s W → Rnd s s' v W → assign.wpIn (Fence.wide.inRound (w.heap.size + 1)) 3 P (Exit.then (fun a₁ w₁ => J r s w₁ ∧ body.wpIn (Fence.wide.inRound (w.heap.size + 1)) 3 P (rndPost (J r' s')) a₁ (w₁.putObj (w.heap.size + 1) (.loop r'))) (fun _ _ _ => False))
      { tmps := (ps.zip #[v]).foldl (fun t (p, x) => t.setIfInBounds p x) a.tmps, defers := [] } W)
    (hseq : ∀ r, (∀ s s' v W, J r s W → Rnd s s' v W → YieldAt Fence.wide 3 P (w.heap.size + 1) #[v] W fun e W' => e = .returned (.bool true) ∧ J r s' W') →
      ∀ W1, J r s0 W1 → Calls P gf (#[.func (.yield (w.heap.size + 1)) #[] #[]] ++ lb) W1 fun e W' => (∃ v, e = .returned v) ∧ ∃ s, Fin s ∧ J r s W')
    (hdone : ∀ r s W, Fin s → J r s W → Q .normal { a with defers := { target := .collected w.heap.size, args := #[] } :: a.defers } W) :
    (Code.rangeFunc g ps assign body).wp P Q a w := by
  refine (wpIn_wide (n := 5)).1 ?_
  refine wpIn_rangeFunc ?_
  intro fn hfn
  obtain ⟨rec, hrec⟩ : ∃ rec : LoopState → Option Code → Loop, rec = fun st pe => { state := st, pending := pe, fn, tmps := a.tmps, params := ps, assign, body, defers := w.heap.size } := ⟨_, rfl⟩
  obtain ⟨W1, hW1⟩ : ∃ W1, (w.alloc (.deferred (some []))).alloc (.loop (rec .ready none)) = W1 := ⟨_, rfl⟩
  refine ⟨w.heap.size + 1, [{ target := .collected w.heap.size, args := #[] }], W1, { target := .fn (.func gf) lb, args := #[.func (.yield (w.heap.size + 1)) #[] #[]] }, W1, gf,
    #[.func (.yield (w.heap.size + 1)) #[] #[]] ++ lb, W1, ?_, ?_, ?_, ?_, fun h => by simp [Fence.wide] at h, ?_⟩
  · rw [← hW1, hrec]; exact run_enterLoop_outer _ _ _ _ _
  · simp only [resolve, hg]
    simp [go_sem]
  · intro f' hf'; trivial
  · simp [invoke, go_sem, eg]
  · refine callsIn_wide.2 ((hseq (rec .ready none) ?_ W1 (by rw [← hW1]; exact hstart _)).mono ?_)
    · intro s s' v W hj hp
      obtain ⟨hl, _⟩ := hrcd _ _ _ hj
      have hy := run_yield (P := P) (args := #[v]) hl (by rw [hrec]; simpa using hps.symm)
      rw [hrec] at hy
      refine ⟨fn, _, assign, body, hy, roundIn_of_wpIn hfn (wpIn_mono (hround s s' v W (rec .ready none) { rec .ready none with state := .busy } hj hp) ?_)⟩
      rintro e a1 w1 hp1
      cases e with
      | normal =>
        obtain ⟨hj1, hb⟩ := hp1
        obtain ⟨hl1, _⟩ := hrcd _ _ _ hj1
        refine ⟨_, run_beginRound hl1 (by rw [hrec]), wpIn_mono hb ?_⟩
        rintro e2 a2 w2 hp2
        cases e2 with
        | normal =>
          have hj2 : J _ s' w2 := hp2
          obtain ⟨hl2, _⟩ := hrcd _ _ _ hj2
          refine ⟨_, _, run_endRound none hl2, rfl, ?_⟩
          have := hput _ (rec .ready none) _ _ hj2
          rw [hrec] at this ⊢
          exact this
        | _ => exact hp2.elim
      | _ => exact hp1.elim
    · rintro e W2 ⟨⟨v, rfl⟩, s, hf, hj⟩
      obtain ⟨hl, _⟩ := hrcd _ _ _ hj
      exact ⟨none, _, by have := run_endLoop (P := P) hl (by rw [hrec]; simp); rw [hrec] at this; exact this, hdone _ s _ hf (hput _ _ s _ hj)⟩
/-- All was told. -/
theorem tell_post {S S' : Nat → Prop} {w W Wz : World} {g hx hb ob' l D : Nat} {kv kv' ev : Value} {h : Hp} {L L' : List (Pc × Value)} {n' : Int} {r : Loop} {out' : List Int} {oA : Option Addr} {oc : Nat} (m : HPx S w g kv ev h L) (hS1 : ∀ b, S b → S' b) (hS2 : ∀ b, S' b → S b ∨ w.heap.size ≤ b)
    (j : DJ S' w g hx hb ob' l D h.most kv ev r n' kv' L' out' W) (o1 : Blk W ob' 35 #[.slice oA out'.length oc]) (o2 : W.ownsRow 0 5 1 (.slice oA out'.length oc) out'.length (byts out')) (o3 : ∀ b, (Value.slice oA out'.length oc).ownBlock = some b → w.heap.size ≤ b ∧ ¬ S' b)
    (f : Fr [ob', D] W Wz) (hD : w.heap.size ≤ D) (hSD : ¬ S' D) : PutPost S w g kv { h with next := n', kept := L'.map (·.1) } out' 0 (.returned (.tuple #[.slice oA out'.length oc, .int .i64 0])) Wz := by
  have hO : ∀ x ∈ [ob', D], ¬ S' x := by
    intro x hx
    simp at hx
    rcases hx with rfl | rfl
    · exact j.off.2
    · exact hSD
  have hg : g ∉ [ob', D] := by
    simp
    exact ⟨fun e => blk_ne o1 j.seen.blk (by decide) e.symm, fun e => blk_def j.dfr j.seen.blk e⟩
  have hk : ∀ b, kv'.ownBlock = some b → b ∉ [ob', D] := fun b hb' => by
    simp
    refine ⟨fun e => own_ne j.seen.kp.own o1 (by decide) (e ▸ hb'), fun e => own_def j.dfr j.seen.kp.own hb' e⟩
  have ho : ∀ b, (Value.slice oA out'.length oc).ownBlock = some b → b ∉ [ob', D] := fun b hb' => by
    simp
    refine ⟨fun e => own_ne o2 o1 (by decide) (e ▸ hb'), fun e => own_def j.dfr o2 hb' e⟩
  have F : Fr [g] w Wz := j.fr.trans f (by
    intro x hx
    simp at hx
    rcases hx with rfl | rfl
    · exact .inr j.old.1
    · exact .inr hD)
  have own' := own_fr o2 f ho
  have hsz := j.fr.size
  refine ⟨fun b => S' b ∨ (Value.slice oA out'.length oc).ownBlock = some b, kv', oA, oc, rfl, ⟨fun b h => .inl (hS1 b h), fun b h => ?_⟩, Sl.of_own own' (fun b h => .inr h), ⟨ev, L', j.seen.blk.fr f hg, (j.seen.kp.fr f hO hk).mono (fun b h => .inl h), rfl, ?_, ?_, ?_, ?_⟩, F.mono (by simp), fun b h => (j.offk b h).2⟩
  · rcases h with h | h
    · exact hS2 b h
    · exact .inr (o3 b h).1
  · rcases m.fin with h1 | ⟨fa, fb, h1, h2, h3, h4⟩
    · exact .inl h1
    · exact .inr ⟨fa, fb, h1, h2, .inl (hS1 fb h3), (F.cell (p := ⟨fb, 0, none⟩) (m.pub fb h3) (by simp; rintro rfl; exact m.offg h3)).trans h4⟩
  · intro b h
    rcases h with h | h
    · exact Nat.lt_of_lt_of_le (j.seen.pub b h) f.size
    · exact own_lt own' h
  · rintro (h | h)
    · exact j.seen.offg h
    · exact own_ne o2 j.seen.blk (by decide) h
  · rintro b hb' (h | h)
    · exact (j.offk b hb').1 h
    · exact own_ne2 j.seen.kp.own o2 (by decide) hb' h
end Go.Proofs.Ytdlmhadcaagokaa
