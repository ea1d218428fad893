/- As Rf, with blocks (those of a predicate c) that nobody turns: a range over a function whose iterator writes a box of its own (block b) between two rounds, and whose body never leaves: one law, over the kit's 'wpIn_rangeFunc' and 'roundIn_of_wpIn'. -/
import Derived.Test.YtbeibmdccjgcmaaDoorProg
import Derived.RangeFuncNested
import Derived.RangeFuncBound
import Derived.RangeFuncCalls
import Derived.RangeFuncLeaves
import Derived.Shelf.Abstract
import Derived.Shelf.RegionOpen
import Derived.WalkKit
import Derived.OwnWalkIn
import Derived.TacticsInMore
import Derived.LoopNIn
import Derived.LoopIn
import Derived.Deep.RegionWith
import Derived.Maps.OwnIn
import Derived.Deep.LoopGhost
namespace Go.Proofs.YtbeibmdccjgcmaaDoor.Rq
open Go.RowKit Go.Shelf
set_option linter.unusedVariables false

/-- Whatever else turned, block b and all that is no cells from B on lie as they lay. -/
structure Stays (B b : Nat) (c : Nat → Prop) (W W' : World) : Prop where
  size : W.heap.size ≤ W'.heap.size
  same : ∀ (k : Nat) (o : Obj), B ≤ k → W.heap[k]? = some o → o.isCells = false → W'.heap[k]? = some o
  box : W'.heap[b]? = W.heap[b]?
  keep : ∀ k, c k → W'.heap[k]? = W.heap[k]?
theorem Stays.refl (B b : Nat) (c : Nat → Prop) (W : World) : Stays B b c W W := ⟨Nat.le_refl _, fun _ _ _ h _ => h, rfl, fun _ _ => rfl⟩
theorem Stays.trans {B b : Nat} {c : Nat → Prop} {X Y Z : World} (h : Stays B b c X Y) (k : Stays B b c Y Z) : Stays B b c X Z :=
  ⟨Nat.le_trans h.size k.size, fun i o hB hi ho => k.same i o hB (h.same i o hB hi ho) ho, k.box.trans h.box, fun j hj => (k.keep j hj).trans (h.keep j hj)⟩
/-- What a step leaves that turns one row and lays new blocks. -/
theorem Stays.grown {B b : Nat} {c : Nat → Prop} {W W' : World} {row : Option Nat} (hg : W.grownBy W' row) (hb : b < W.heap.size) (hc : ∀ k, c k → k < W.heap.size) (h : ∀ r, row = some r → r ≠ b ∧ ¬ c r ∧ (r < B ∨ ∃ o : Obj, W.heap[r]? = some o ∧ o.isCells = true)) : Stays B b c W W' := by
  refine ⟨hg.size, fun k o hk ho hc => ?_, hg.block b hb fun e => (h b e.symm).1 rfl, fun k hk => hg.block k (hc k hk) fun e => (h k e.symm).2.1 hk⟩
  refine (hg.block k (Array.getElem?_eq_some_iff.1 ho).1 fun e => ?_).trans ho
  rcases (h k e.symm).2.2 with h1 | ⟨o', h1, h2⟩
  · omega
  · rw [ho] at h1
    cases h1
    rw [hc] at h2
    cases h2
/-- What the caller's invariant abides: new blocks; a turn of the iterator's box; of whatever is no cells from B on. -/
def Bears {β : Type} (B b : Nat) (I : β → World → Prop) : Prop :=
  ∀ s W W' row, I s W → W.grownBy W' row → (∀ r, row = some r → r = b ∨ B ≤ r ∧ ∃ o : Obj, W.heap[r]? = some o ∧ o.isCells = false) → I s W'
theorem grown_put (W : World) (l : Nat) (o : Obj) : W.grownBy (W.putObj l o) (some l) := ⟨rfl, rfl, rfl, by simp, fun k _ hk => World.putObj_heap_other (fun e => hk (by rw [e]))⟩
/-- An iterator's contract: it may write its box. -/
def Tells {α : Type} (F : Fence) (n : Nat) (P : Program) (gf : Nat) (lb : Array Value) (encs : α → Array Value) (b : Nat) (c : Nat → Prop) (S : List α → Prop) (N : Nat) (w : World) : Prop :=
  ∀ (l : Nat) (J : List α → World → Prop) (W : World), w.heap.size ≤ W.heap.size → W.heap[b]? = w.heap[b]? → (∀ k, c k → W.heap[k]? = w.heap[k]?) →
    (∀ s X Y row, J s X → X.grownBy Y row → (∀ r, row = some r → r = b) → J s Y) →
    (∀ pre x W1, J pre W1 → pre.length < N → b < W1.heap.size → (∀ k, c k → k < W1.heap.size) → YieldAt F (n - 1) P l (encs x) W1 fun e W' => e = .returned (.bool true) ∧ J (pre ++ [x]) W' ∧ W1.heap.size ≤ W'.heap.size ∧ W'.heap[b]? = W1.heap[b]? ∧ ∀ k, c k → W'.heap[k]? = W1.heap[k]?) →
    J [] W → CallsIn F n P gf (#[.func (.yield l) #[] #[]] ++ lb) W fun e W' => (∃ v, e = .returned v) ∧ ∃ xs, S xs ∧ J xs W'

theorem range_box {α : Type} {F : Fence} {n : Nat} {P : Program} {g : Operand} {ps : Array Tmp} {assign body : Code} {Q : Exit → Act → World → Prop} {a : Act} {w : World}
    (hro : F.round = none) (h1 : 1 ≤ n) {gf : Nat} {lb : Array Value} (hg : a.eval g = .func (.func gf) #[] lb) (hFg : F.fn gf) (eg : ∀ args w, (callFunc gf args).run P w = .ok (.enter gf args) w)
    {encs : α → Array Value} {b N : Nat} {c : Nat → Prop} {S : List α → Prop} (hb : b < w.heap.size) (hc : ∀ k, c k → k < w.heap.size) (hseq : Tells F (n - 1) P gf lb encs b c S N w) (hps : ∀ x, (encs x).size = ps.size)
    (I : List α → World → Prop) (hI : Bears w.heap.size b I) (h0 : I [] w) (Ax : α → Act → World → Prop) (hAx : ∀ x a', Bears w.heap.size b (fun (_ : Unit) W => Ax x a' W))
    (hassign : ∀ (l : Nat) (pre : List α) (x : α) (W : World) (K : Act → World → Prop), I pre W → b < W.heap.size → (∀ k, c k → k < W.heap.size) → (∀ a' W', Stays w.heap.size b c W W' → I pre W' → Ax x a' W' → K a' W') →
      assign.wpIn (F.inRound l) (n - 1 - 1) P (Exit.then K (fun _ _ _ => False)) { tmps := (ps.zip (encs x)).foldl (fun t (p, v) => t.setIfInBounds p v) a.tmps, defers := [] } W)
    (hbody : ∀ (l : Nat) (pre : List α) (x : α) (a' : Act) (W : World), I pre W → Ax x a' W → pre.length < N → b < W.heap.size → (∀ k, c k → k < W.heap.size) →
      body.wpIn (F.inRound l) (n - 1 - 1) P (Exit.then (fun _ W' => Stays w.heap.size b c W W' ∧ I (pre ++ [x]) W') (fun _ _ _ => False)) a' W)
    (hdone : ∀ (D : Nat) (xs : List α) (W : World), w.heap.size ≤ D → S xs → I xs W → W.heap[D]? = some (.deferred (some [])) → Q .normal { a with defers := { target := .collected D, args := #[] } :: a.defers } W) :
    (Code.rangeFunc g ps assign body).wpIn F n P Q a w := by
  refine wpIn_rangeFunc fun fn hfn => ?_
  rw [hro]
  obtain ⟨mk, hmk⟩ : ∃ mk : LoopState → Loop, mk = fun st => { state := st, pending := none, fn, tmps := a.tmps, params := ps, assign, body, defers := w.heap.size } := ⟨_, rfl⟩
  obtain ⟨W1, hW1⟩ : ∃ W1, W1 = (w.alloc (.deferred (some []))).alloc (.loop (mk .ready)) := ⟨_, rfl⟩
  have s1 : W1.heap.size = w.heap.size + 1 + 1 := by rw [hW1]; simp
  have g1 : w.grownBy W1 none := by
    rw [hW1]
    exact ⟨rfl, rfl, rfl, by simp; omega, fun k hk _ => (Below.heap_alloc _ _ k (by simp; omega)).trans (Below.heap_alloc w _ k hk)⟩
  have hl1 : W1.heap[w.heap.size + 1]? = some (.loop (mk .ready)) := by
    have h := World.alloc_heap_new (w.alloc (.deferred (some []))) (.loop (mk .ready))
    rw [World.size_alloc] at h
    rw [hW1]
    exact h
  have hd1 : W1.heap[w.heap.size]? = some (.deferred (some [])) := by
    rw [hW1]
    exact (Below.heap_alloc _ _ _ (by simp)).trans (World.alloc_heap_new w _)
  refine ⟨w.heap.size + 1, [{ target := .collected w.heap.size, args := #[] }], W1, { target := .fn (.func gf) lb, args := #[.func (.yield (w.heap.size + 1)) #[] #[]] }, W1, gf, #[.func (.yield (w.heap.size + 1)) #[] #[]] ++ lb, W1, ?_, ?_, ?_, ?_, fun _ => h1, ?_⟩
  · rw [hW1, hmk]
    exact run_enterLoop_outer _ _ _ _ _
  · simp only [resolve, hg]
    simp [go_sem]
  · intro f' hf'
    simp [Target.leads] at hf'
    rw [← hf']
    exact hFg
  · simp [invoke, go_sem, eg]
  refine (hseq (w.heap.size + 1) (fun pre W => I pre W ∧ W.heap[w.heap.size + 1]? = some (.loop (mk .ready)) ∧ W.heap[w.heap.size]? = some (.deferred (some []))) W1 g1.size (g1.block b hb (by simp)) (fun k hk => g1.block k (hc k hk) (by simp)) ?_ ?_ ⟨hI _ _ _ none h0 g1 (by simp), hl1, hd1⟩).mono ?_
  · rintro s X Y row ⟨x1, x2, x3⟩ hgr hr
    refine ⟨hI _ _ _ row x1 hgr fun r e => .inl (hr r e), ?_, ?_⟩
    · exact (hgr.block _ (Array.getElem?_eq_some_iff.1 x2).1 fun e => by have := hr _ e.symm; omega).trans x2
    · exact (hgr.block _ (Array.getElem?_eq_some_iff.1 x3).1 fun e => by have := hr _ e.symm; omega).trans x3
  · rintro pre x W ⟨x1, x2, x3⟩ hN hbW hcW
    have hy := run_yield (P := P) (args := encs x) x2 (by rw [hmk]; exact hps x)
    rw [hmk] at hy
    refine ⟨fn, _, assign, body, hy, roundIn_of_wpIn hfn (hassign _ pre x W _ x1 hbW hcW fun a' Wa st ia ax => ?_)⟩
    have y2 := st.same _ _ (by omega) x2 rfl
    have y3 := st.same _ _ (Nat.le_refl _) x3 rfl
    refine ⟨_, run_beginRound y2 (by rw [hmk]), ?_⟩
    have z2 : (Wa.putObj (w.heap.size + 1) (.loop { mk .ready with state := .busy })).heap[w.heap.size + 1]? = some (.loop { mk .ready with state := .busy }) := World.putObj_heap_same (Array.getElem?_eq_some_iff.1 y2).1
    have z3 : (Wa.putObj (w.heap.size + 1) (.loop { mk .ready with state := .busy })).heap[w.heap.size]? = some (.deferred (some [])) := (World.putObj_heap_other (by omega)).trans y3
    have lay : ∀ r, (some (w.heap.size + 1) : Option Nat) = some r → r = b ∨ w.heap.size ≤ r ∧ ∃ o : Obj, Wa.heap[r]? = some o ∧ o.isCells = false := fun r e => by
      obtain rfl := Option.some.inj e
      exact .inr ⟨by omega, _, y2, rfl⟩
    have sz : b < (Wa.putObj (w.heap.size + 1) (.loop { mk .ready with state := .busy })).heap.size := by rw [World.putObj_size]; exact Nat.lt_of_lt_of_le hbW st.size
    have szc : ∀ k, c k → k < (Wa.putObj (w.heap.size + 1) (.loop { mk .ready with state := .busy })).heap.size := fun k hk => by rw [World.putObj_size]; exact Nat.lt_of_lt_of_le (hcW k hk) st.size
    refine wpIn_mono (hbody _ pre x a' _ (hI _ _ _ _ ia (grown_put _ _ _) lay) (hAx x a' () _ _ _ ax (grown_put _ _ _) lay) hN sz szc) ?_
    rintro e a3 W3 hp
    cases e with
    | normal =>
      obtain ⟨st3, i3⟩ := hp
      have u2 := st3.same _ _ (by omega) z2 rfl
      have u3 := st3.same _ _ (Nat.le_refl _) z3 rfl
      have he := run_endRound (P := P) none u2
      refine ⟨_, _, he, rfl, ⟨hI _ _ _ _ i3 (grown_put _ _ _) fun r e => ?_, ?_, ?_⟩, ?_, ?_, ?_⟩
      · obtain rfl := Option.some.inj e
        exact .inr ⟨by omega, _, u2, rfl⟩
      · rw [World.putObj_heap_same (Array.getElem?_eq_some_iff.1 u2).1, hmk]
        rfl
      · exact (World.putObj_heap_other (by omega)).trans u3
      · rw [World.putObj_size]
        have t1 := st.size
        have t2 := st3.size
        rw [World.putObj_size] at t2
        omega
      · rw [World.putObj_heap_other (by omega), st3.box, World.putObj_heap_other (by omega), st.box]
      · intro k hk
        have := hc k hk
        rw [World.putObj_heap_other (by omega), st3.keep k hk, World.putObj_heap_other (by omega), st.keep k hk]
    | ret => exact hp.elim
    | exit id => exact hp.elim
    | goto t => exact hp.elim
    | panic ch => exact hp.elim
    | outgrown => exact hp.elim
  · rintro e W ⟨⟨v, rfl⟩, xs, hS, i, x2, x3⟩
    refine ⟨none, _, (run_endLoop x2 (by rw [hmk]; simp)).trans (by rw [hmk]), ?_⟩
    refine hdone w.heap.size xs _ (Nat.le_refl _) hS (hI _ _ _ _ i (grown_put _ _ _) fun r e => ?_) ((World.putObj_heap_other (by omega)).trans x3)
    obtain rfl := Option.some.inj e
    exact .inr ⟨by omega, _, x2, rfl⟩
/-- A loop inside a fence: an invariant that bears a number, which every round lowers. -/
theorem loop_ghost {F : Fence} {n : Nat} {P : Program} {Q : Exit → Act → World → Prop} {a : Act} {w : World} {c : Code} (I : Nat → Act → World → Prop) (n₀ : Nat) (h₀ : I n₀ a w)
    (round : ∀ k a w, I k a w → c.wpIn F n P (Exit.then (fun a' w' => ∃ k', k' < k ∧ I k' a' w') Q) a w) : (Code.loop c).wpIn F n P Q a w := by
  refine wpIn_loop (fun a w => ∃ k, I k a w) (fun a w => leastOf (fun k => I k a w)) ⟨n₀, h₀⟩ fun a w hI => ?_
  refine wpIn_mono (round _ a w (leastOf_spec hI).1) fun e a' w' hq => ?_
  cases e with
  | normal =>
    obtain ⟨k', hlt, hI'⟩ := hq
    exact ⟨⟨k', hI'⟩, Nat.lt_of_le_of_lt ((leastOf_spec ⟨k', hI'⟩).2 k' hI') hlt⟩
  | exit id => exact hq
  | goto l => exact hq
  | ret => exact hq
  | panic ch => exact hq
  | outgrown => exact hq
end Go.Proofs.YtbeibmdccjgcmaaDoor.Rq
