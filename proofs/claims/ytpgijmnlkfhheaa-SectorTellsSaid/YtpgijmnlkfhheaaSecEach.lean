/- (sector.Volume).sectors: the iterator tells each number with its sector's bytes. -/
import Derived.Test.YtpgijmnlkfhheaaProg
import Derived.RangeFuncNested
import Derived.RangeFuncBound
import Derived.RangeFuncCalls
import Derived.RangeFuncLeaves
import Derived.Shelf.Abstract
import Derived.Shelf.RegionOpen
import Derived.WalkKit
import Derived.OwnWalkIn
import Derived.TacticsInMore
import Derived.LoopNIn
import Derived.LoopIn
import Derived.Deep.RegionWith
import Derived.Maps.OwnIn
import Derived.Deep.LoopGhost
import Derived.Test.YtpgijmnlkfhheaaWMore
namespace Go.Proofs.Ytpgijmnlkfhheaa.Rb
open Go.RowKit Go.Shelf
set_option linter.unusedVariables false

structure Stays (B : Nat) (b : Nat → Prop) (W W' : World) : Prop where
  size : W.heap.size ≤ W'.heap.size
  same : ∀ (k : Nat) (o : Obj), B ≤ k → W.heap[k]? = some o → o.isCells = false → W'.heap[k]? = some o
  box : ∀ k, b k → W'.heap[k]? = W.heap[k]?
theorem Stays.refl (B : Nat) (b : Nat → Prop) (W : World) : Stays B b W W := ⟨Nat.le_refl _, fun _ _ _ h _ => h, fun _ _ => rfl⟩
theorem Stays.trans {B : Nat} {b : Nat → Prop} {X Y Z : World} (h : Stays B b X Y) (k : Stays B b Y Z) : Stays B b X Z :=
  ⟨Nat.le_trans h.size k.size, fun i o hB hi ho => k.same i o hB (h.same i o hB hi ho) ho, fun j hj => (k.box j hj).trans (h.box j hj)⟩
theorem Stays.grown {B : Nat} {b : Nat → Prop} {W W' : World} {row : Option Nat} (hg : W.grownBy W' row) (hb : ∀ k, b k → k < W.heap.size) (h : ∀ r, row = some r → ¬ b r ∧ (r < B ∨ ∃ o : Obj, W.heap[r]? = some o ∧ o.isCells = true)) : Stays B b W W' := by
  refine ⟨hg.size, fun k o hk ho hc => ?_, fun k hk => hg.block k (hb k hk) fun e => (h k e.symm).1 hk⟩
  refine (hg.block k (Array.getElem?_eq_some_iff.1 ho).1 fun e => ?_).trans ho
  rcases (h k e.symm).2 with h1 | ⟨o', h1, h2⟩
  · omega
  · rw [ho] at h1
    cases h1
    rw [hc] at h2
    cases h2
def Bears {β : Type} (B : Nat) (I : β → World → Prop) : Prop :=
  ∀ s W W' row, I s W → W.grownBy W' row → (∀ r, row = some r → B ≤ r ∧ ∃ o : Obj, W.heap[r]? = some o ∧ o.isCells = false) → I s W'
theorem grown_put (W : World) (l : Nat) (o : Obj) : W.grownBy (W.putObj l o) (some l) := ⟨rfl, rfl, rfl, by simp, fun k _ hk => World.putObj_heap_other (fun e => hk (by rw [e]))⟩
def Tells {α : Type} (F : Fence) (n : Nat) (P : Program) (gf : Nat) (lb : Array Value) (encs : α → Array Value) (b : Nat → Prop) (S : List α → Prop) (N : List α → Prop) (w : World) : Prop :=
  ∀ (l : Nat) (J : List α → World → Prop) (W : World), w.heap.size ≤ W.heap.size → (∀ k, b k → W.heap[k]? = w.heap[k]?) →
    (∀ s X Y, J s X → X.grownBy Y none → J s Y) →
    (∀ pre x W1, J pre W1 → N (pre ++ [x]) → (∀ k, b k → k < W1.heap.size) → YieldAt F (n - 1) P l (encs x) W1 fun e W' => e = .returned (.bool true) ∧ J (pre ++ [x]) W' ∧ W1.heap.size ≤ W'.heap.size ∧ ∀ k, b k → W'.heap[k]? = W1.heap[k]?) →
    J [] W → CallsIn F n P gf (#[.func (.yield l) #[] #[]] ++ lb) W fun e W' => (∃ v, e = .returned v) ∧ ∃ xs, S xs ∧ J xs W'

theorem range_box {α : Type} {F : Fence} {n : Nat} {P : Program} {g : Operand} {ps : Array Tmp} {assign body : Code} {Q : Exit → Act → World → Prop} {a : Act} {w : World}
    (hro : F.round = none) (h1 : 1 ≤ n) {gf : Nat} {lb : Array Value} (hg : a.eval g = .func (.func gf) #[] lb) (hFg : F.fn gf) (eg : ∀ args w, (callFunc gf args).run P w = .ok (.enter gf args) w)
    {encs : α → Array Value} {b : Nat → Prop} {N : List α → Prop} {S : List α → Prop} (hb : ∀ k, b k → k < w.heap.size) (hseq : Tells F (n - 1) P gf lb encs b S N w) (hps : ∀ x, (encs x).size = ps.size)
    (I : List α → World → Prop) (hI : Bears w.heap.size I) (h0 : I [] w) (Ax : α → Act → World → Prop) (hAx : ∀ x a', Bears w.heap.size (fun (_ : Unit) W => Ax x a' W))
    (hassign : ∀ (l : Nat) (pre : List α) (x : α) (W : World) (K : Act → World → Prop), I pre W → (∀ k, b k → k < W.heap.size) → (∀ a' W', Stays w.heap.size b W W' → I pre W' → Ax x a' W' → K a' W') →
      assign.wpIn (F.inRound l) (n - 1 - 1) P (Exit.then K (fun _ _ _ => False)) { tmps := (ps.zip (encs x)).foldl (fun t (p, v) => t.setIfInBounds p v) a.tmps, defers := [] } W)
    (hbody : ∀ (l : Nat) (pre : List α) (x : α) (a' : Act) (W : World), I pre W → Ax x a' W → N (pre ++ [x]) → (∀ k, b k → k < W.heap.size) →
      body.wpIn (F.inRound l) (n - 1 - 1) P (Exit.then (fun _ W' => Stays w.heap.size b W W' ∧ I (pre ++ [x]) W') (fun _ _ _ => False)) a' W)
    (hdone : ∀ (D : Nat) (xs : List α) (W : World), w.heap.size ≤ D → S xs → I xs W → W.heap[D]? = some (.deferred (some [])) → Q .normal { a with defers := { target := .collected D, args := #[] } :: a.defers } W) :
    (Code.rangeFunc g ps assign body).wpIn F n P Q a w := by
  refine wpIn_rangeFunc fun fn hfn => ?_
  rw [hro]
  obtain ⟨mk, hmk⟩ : ∃ mk : LoopState → Loop, mk = fun st => { state := st, pending := none, fn, tmps := a.tmps, params := ps, assign, body, defers := w.heap.size } := ⟨_, rfl⟩
  obtain ⟨W1, hW1⟩ : ∃ W1, W1 = (w.alloc (.deferred (some []))).alloc (.loop (mk .ready)) := ⟨_, rfl⟩
  have s1 : W1.heap.size = w.heap.size + 1 + 1 := by rw [hW1]; simp
  have g1 : w.grownBy W1 none := by
    rw [hW1]
    exact ⟨rfl, rfl, rfl, by simp; omega, fun k hk _ => (Below.heap_alloc _ _ k (by simp; omega)).trans (Below.heap_alloc w _ k hk)⟩
  have hl1 : W1.heap[w.heap.size + 1]? = some (.loop (mk .ready)) := by
    have h := World.alloc_heap_new (w.alloc (.deferred (some []))) (.loop (mk .ready))
    rw [World.size_alloc] at h
    rw [hW1]
    exact h
  have hd1 : W1.heap[w.heap.size]? = some (.deferred (some [])) := by
    rw [hW1]
    exact (Below.heap_alloc _ _ _ (by simp)).trans (World.alloc_heap_new w _)
  refine ⟨w.heap.size + 1, [{ target := .collected w.heap.size, args := #[] }], W1, { target := .fn (.func gf) lb, args := #[.func (.yield (w.heap.size + 1)) #[] #[]] }, W1, gf, #[.func (.yield (w.heap.size + 1)) #[] #[]] ++ lb, W1, ?_, ?_, ?_, ?_, fun _ => h1, ?_⟩
  · rw [hW1, hmk]
    exact run_enterLoop_outer _ _ _ _ _
  · simp only [resolve, hg]
    simp [go_sem]
  · intro f' hf'
    simp [Target.leads] at hf'
    rw [← hf']
    exact hFg
  · simp [invoke, go_sem, eg]
  refine (hseq (w.heap.size + 1) (fun pre W => I pre W ∧ W.heap[w.heap.size + 1]? = some (.loop (mk .ready)) ∧ W.heap[w.heap.size]? = some (.deferred (some []))) W1 g1.size (fun k hk => g1.block k (hb k hk) (by simp)) ?_ ?_ ⟨hI _ _ _ none h0 g1 (by simp), hl1, hd1⟩).mono ?_
  · rintro s X Y ⟨x1, x2, x3⟩ hgr
    refine ⟨hI _ _ _ none x1 hgr fun r e => (by cases e), ?_, ?_⟩
    · exact (hgr.block _ (Array.getElem?_eq_some_iff.1 x2).1 (by simp)).trans x2
    · exact (hgr.block _ (Array.getElem?_eq_some_iff.1 x3).1 (by simp)).trans x3
  · rintro pre x W ⟨x1, x2, x3⟩ hN hbW
    have hy := run_yield (P := P) (args := encs x) x2 (by rw [hmk]; exact hps x)
    rw [hmk] at hy
    refine ⟨fn, _, assign, body, hy, roundIn_of_wpIn hfn (hassign _ pre x W _ x1 hbW fun a' Wa st ia ax => ?_)⟩
    have y2 := st.same _ _ (by omega) x2 rfl
    have y3 := st.same _ _ (Nat.le_refl _) x3 rfl
    refine ⟨_, run_beginRound y2 (by rw [hmk]), ?_⟩
    have z2 : (Wa.putObj (w.heap.size + 1) (.loop { mk .ready with state := .busy })).heap[w.heap.size + 1]? = some (.loop { mk .ready with state := .busy }) := World.putObj_heap_same (Array.getElem?_eq_some_iff.1 y2).1
    have z3 : (Wa.putObj (w.heap.size + 1) (.loop { mk .ready with state := .busy })).heap[w.heap.size]? = some (.deferred (some [])) := (World.putObj_heap_other (by omega)).trans y3
    have lay : ∀ r, (some (w.heap.size + 1) : Option Nat) = some r → w.heap.size ≤ r ∧ ∃ o : Obj, Wa.heap[r]? = some o ∧ o.isCells = false := fun r e => by
      obtain rfl := Option.some.inj e
      exact ⟨by omega, _, y2, rfl⟩
    have sz : ∀ k, b k → k < (Wa.putObj (w.heap.size + 1) (.loop { mk .ready with state := .busy })).heap.size := fun k hk => by rw [World.putObj_size]; exact Nat.lt_of_lt_of_le (hbW k hk) st.size
    refine wpIn_mono (hbody _ pre x a' _ (hI _ _ _ _ ia (grown_put _ _ _) lay) (hAx x a' () _ _ _ ax (grown_put _ _ _) lay) hN sz) ?_
    rintro e a3 W3 hp
    cases e with
    | normal =>
      obtain ⟨st3, i3⟩ := hp
      have u2 := st3.same _ _ (by omega) z2 rfl
      have u3 := st3.same _ _ (Nat.le_refl _) z3 rfl
      have he := run_endRound (P := P) none u2
      refine ⟨_, _, he, rfl, ⟨hI _ _ _ _ i3 (grown_put _ _ _) fun r e => ?_, ?_, ?_⟩, ?_, ?_⟩
      · obtain rfl := Option.some.inj e
        exact ⟨by omega, _, u2, rfl⟩
      · rw [World.putObj_heap_same (Array.getElem?_eq_some_iff.1 u2).1, hmk]
        rfl
      · exact (World.putObj_heap_other (by omega)).trans u3
      · rw [World.putObj_size]
        have t1 := st.size
        have t2 := st3.size
        rw [World.putObj_size] at t2
        omega
      · intro k hk
        have := hb k hk
        rw [World.putObj_heap_other (by omega), st3.box k hk, World.putObj_heap_other (by omega), st.box k hk]
    | ret => exact hp.elim
    | exit id => exact hp.elim
    | goto t => exact hp.elim
    | panic ch => exact hp.elim
    | outgrown => exact hp.elim
  · rintro e W ⟨⟨v, rfl⟩, xs, hS, i, x2, x3⟩
    refine ⟨none, _, (run_endLoop x2 (by rw [hmk]; simp)).trans (by rw [hmk]), ?_⟩
    refine hdone w.heap.size xs _ (Nat.le_refl _) hS (hI _ _ _ _ i (grown_put _ _ _) fun r e => ?_) ((World.putObj_heap_other (by omega)).trans x3)
    obtain rfl := Option.some.inj e
    exact ⟨by omega, _, x2, rfl⟩
theorem loop_ghost {F : Fence} {n : Nat} {P : Program} {Q : Exit → Act → World → Prop} {a : Act} {w : World} {c : Code} (I : Nat → Act → World → Prop) (n₀ : Nat) (h₀ : I n₀ a w)
    (round : ∀ k a w, I k a w → c.wpIn F n P (Exit.then (fun a' w' => ∃ k', k' < k ∧ I k' a' w') Q) a w) : (Code.loop c).wpIn F n P Q a w := by
  refine wpIn_loop (fun a w => ∃ k, I k a w) (fun a w => leastOf (fun k => I k a w)) ⟨n₀, h₀⟩ fun a w hI => ?_
  refine wpIn_mono (round _ a w (leastOf_spec hI).1) fun e a' w' hq => ?_
  cases e with
  | normal =>
    obtain ⟨k', hlt, hI'⟩ := hq
    exact ⟨⟨k', hI'⟩, Nat.lt_of_le_of_lt ((leastOf_spec ⟨k', hI'⟩).2 k' hI') hlt⟩
  | exit id => exact hq
  | goto l => exact hq
  | ret => exact hq
  | panic ch => exact hq
  | outgrown => exact hq
end Go.Proofs.Ytpgijmnlkfhheaa.Rb
namespace Go.Proofs.Ytpgijmnlkfhheaa.PSecT
open Go.RowKit Go.Shelf Go.Proofs.YtpgijmnlkfhheaaW.PrintWords Go.Proofs.YtpgijmnlkfhheaaW.PrintLast Go.Proofs.YtpgijmnlkfhheaaW.PrintMore
set_option linter.unusedVariables false
set_option linter.unusedSimpArgs false
attribute [local go_sem] Oper.semAt_some
def secX (o : Nat) (s : ByteArray) (i : Nat) : ByteArray := if (i + 1) * o ≤ s.size then s.extract (i * o) ((i + 1) * o) else ⟨#[]⟩
def secs (R o : Nat) (s : ByteArray) : List (Nat × ByteArray) := (List.range R).map fun i => (i, secX o s i)
theorem secs_len (R o : Nat) (s : ByteArray) : (secs R o s).length = R := by simp [secs]
theorem secs_take {R o : Nat} {s : ByteArray} {i : Nat} (h : i < R) : (secs R o s).take (i + 1) = (secs R o s).take i ++ [(i, secX o s i)] := by
  rw [List.take_succ_eq_append_getElem (by rw [secs_len]; exact h)]
  simp [secs]
def told (R o : Nat) (s : ByteArray) (xs : List (Nat × ByteArray)) : Prop := ∃ i, i < R ∧ xs = (secs R o s).take (i + 1)
theorem told_last {R o : Nat} {s : ByteArray} {pre : List (Nat × ByteArray)} {x : Nat × ByteArray} (h : told R o s (pre ++ [x])) : pre.length < R ∧ x = (pre.length, secX o s pre.length) := by
  obtain ⟨i, hi, e⟩ := h
  rw [secs_take hi] at e
  obtain ⟨e1, e2⟩ := List.append_inj' e rfl
  have hl : pre.length = i := by rw [e1, List.length_take, secs_len]; omega
  rw [hl]
  exact ⟨hi, by simpa using e2⟩
def boxes (gv go gs : Nat) (k : Nat) : Prop := k = gv ∨ k = go ∨ k = gs
set_option maxHeartbeats 4000000 in
set_option maxRecDepth 100000 in
theorem secs_tells (n gv go gs : Nat) (id : ByteArray) (num sz : Int) (R o : Nat) (s : ByteArray) (w : World) (hR : R ≤ 96) (ho : o ≤ 520)
    (hv : w.heap[gv]? = some (.cells #[.string id, .int .i64 num, .int .i64 sz, .int .i64 (R : Int)] 23 (0, 0)))
    (hO : w.heap[go]? = some (.cells #[.int .i64 (o : Int)] 3 (0, 0))) (hS : w.heap[gs]? = some (.cells #[.string s] 9 (0, 0))) :
    Rb.Tells Fence.wide n Try.prog 31 #[.pointer (some ⟨gv, 0, none⟩), .pointer (some ⟨go, 0, none⟩), .pointer (some ⟨gs, 0, none⟩)] (fun x : Nat × ByteArray => #[.int .i64 (x.1 : Int), .string x.2]) (boxes gv go gs) (fun xs => xs = secs R o s) (told R o s) w := by
  intro l J W hsz hbox hJ hY h0
  have hv1 := (hbox gv (.inl rfl)).trans hv
  have hO1 := (hbox go (.inr (.inl rfl))).trans hO
  have hS1 := (hbox gs (.inr (.inr rfl))).trans hS
  have c3 : W.cell? ⟨gv, 3, none⟩ = some (.int .i64 (R : Int)) := (blk_cell hv1 3).trans rfl
  refine callsIn_of_wp Try.func31 rfl trivial ?_ rfl
  simp only [Try.ntmps31, List.size_toArray, List.length_cons, List.length_nil, Nat.reduceAdd, Nat.reduceSub, Array.replicate_succ, Array.replicate_zero, List.push_toArray, List.append_toArray, List.nil_append, List.cons_append]
  gi_wp2_with fail
  refine Rb.loop_ghost (fun kq a wr => ∃ (i : Nat) (t4 t5 t6 t7 t11 t12 t13 t14 t15 t16 t17 t18 t19 t20 t21 t22 t23 t24 t25 t26 t27 t28 t29 t30 t31 t32 : Value), a = { tmps := #[.func (.yield l) #[] #[], .pointer (some ⟨gv, 0, none⟩), .pointer (some ⟨go, 0, none⟩), .pointer (some ⟨gs, 0, none⟩), t4, t5, t6, t7, .pointer (some ⟨gv, 3, none⟩), .int .i64 (R : Int), .int .i64 (i : Int), t11, t12, t13, t14, t15, t16, t17, t18, t19, t20, t21, t22, t23, t24, t25, t26, t27, t28, t29, t30, t31, t32], defers := [] } ∧ kq + i = R ∧ (∀ k, boxes gv go gs k → wr.heap[k]? = w.heap[k]?) ∧ J ((secs R o s).take i) wr) R ⟨0, undef, undef, undef, undef, undef, undef, undef, undef, undef, undef, undef, undef, undef, undef, undef, undef, undef, undef, undef, undef, undef, undef, undef, undef, undef, undef, rfl, rfl, hbox, h0⟩ ?_
  rintro kq a wr ⟨i, t4, t5, t6, t7, t11, t12, t13, t14, t15, t16, t17, t18, t19, t20, t21, t22, t23, t24, t25, t26, t27, t28, t29, t30, t31, t32, rfl, hki, hbw, hJ'⟩
  have hO2 := (hbw go (.inr (.inl rfl))).trans hO
  have hS2 := (hbw gs (.inr (.inr rfl))).trans hS
  have hv2 := (hbw gv (.inl rfl)).trans hv
  have d1 : wr.cell? ⟨go, 0, none⟩ = some (.int .i64 (o : Int)) := (blk_cell hO2 0).trans rfl
  have d2 : wr.cell? ⟨gs, 0, none⟩ = some (.string s) := (blk_cell hS2 0).trans rfl
  have hlt3 : ∀ k, boxes gv go gs k → k < wr.heap.size := by
    rintro k (rfl | rfl | rfl)
    · exact blk_lt hv2
    · exact blk_lt hO2
    · exact blk_lt hS2
  have HJ' := Aside0.mk hJ'
  have HBW := Aside0.mk hbw
  have HL3 := Aside0.mk hlt3
  have HJ := Aside0.mk hJ
  have HY := Aside0.mk hY
  clear hv hO hS hv1 hO1 hS1 c3 hJ' hbw hlt3 hbox h0 hJ hY hO2 hS2 hv2
  by_cases hi : i < R
  · obtain ⟨E, hE⟩ : ∃ E, (i + 1) * o = E := ⟨_, rfl⟩
    obtain ⟨F, hF⟩ : ∃ F, i * o = F := ⟨_, rfl⟩
    have hEF : E = F + o := by rw [← hE, ← hF, Nat.succ_mul]
    have hEb : E ≤ 97 * 520 := by rw [← hE]; exact Nat.mul_le_mul (by omega) ho
    have hx : secX o s i = if E ≤ s.size then s.extract F E else ⟨#[]⟩ := by unfold secX; rw [hE, hF]
    have hm : ((i : Int) + 1) * (o : Int) = (E : Int) := by rw [← hE]; push_cast; rfl
    obtain ⟨fn, tmps, assign, body, hy, hR2⟩ := HY.out ((secs R o s).take i) (i, secX o s i) wr HJ'.out ⟨i, hi, (secs_take hi).symm⟩ HL3.out
    dsimp only at hy
    have HR := Aside0.mk hR2
    have HX := Aside0.mk hx
    clear hE hF hR2 hx
    have hlow : (E : Int) - (o : Int) = (F : Int) := by omega
    have hFE : F ≤ E := by omega
    clear hEF
    have next : ∀ W3, J ((secs R o s).take i ++ [(i, secX o s i)]) W3 → J ((secs R o s).take (i + 1)) W3 := fun W3 h => by rw [secs_take hi]; exact h
    have NX := Aside0.mk next
    clear next
    by_cases hle : E ≤ s.size
    · rw [HX.out, if_pos hle] at hy
      have dle : decide ((E : Int) ≤ (s.size : Int)) = true := decide_eq_true (by omega)
      gi_wp2_with fail
      refine ⟨fun h => (by cases h), HR.out.mono ?_⟩
      rintro e W3 ⟨rfl, hJ3, hsz3, hb3⟩
      have HJ3 := Aside0.mk hJ3
      have HB3 := Aside0.mk hb3
      clear hJ3 hsz3 hb3
      gi_wp2_with fail
      refine ⟨kq - 1, by omega, i + 1, _, _, _, _, _, _, _, _, _, _, _, _, _, _, _, _, _, _, _, _, _, _, _, _, _, _, rfl, by omega, fun k hk => (HB3.out k hk).trans (HBW.out k hk), NX.out W3 HJ3.out⟩
    · rw [HX.out, if_neg hle] at hy
      have dle : decide ((E : Int) ≤ (s.size : Int)) = false := decide_eq_false (by omega)
      gi_wp2_with fail
      refine ⟨fun h => (by cases h), HR.out.mono ?_⟩
      rintro e W3 ⟨rfl, hJ3, hsz3, hb3⟩
      have HJ3 := Aside0.mk hJ3
      have HB3 := Aside0.mk hb3
      clear hJ3 hsz3 hb3
      gi_wp2_with fail
      refine ⟨kq - 1, by omega, i + 1, _, _, _, _, _, _, _, _, _, _, _, _, _, _, _, _, _, _, _, _, _, _, _, _, _, _, rfl, by omega, fun k hk => (HB3.out k hk).trans (HBW.out k hk), NX.out W3 HJ3.out⟩
  · obtain rfl : i = R := by omega
    gi_wp2_with fail
    have hfin : J (secs i o s) wr := by
      have e := HJ'.out
      rw [List.take_of_length_le (by rw [secs_len]; exact Nat.le_refl _)] at e
      exact e
    exact bodyPost_end (results_none rfl _ _ _) rfl ⟨⟨_, rfl⟩, _, rfl, hfin⟩
set_option maxHeartbeats 1000000 in
theorem sectors_calls (id : ByteArray) (num sz rows : Int) (s : ByteArray) (w : World) (h0 : 0 ≤ sz) (h1 : sz ≤ 512) : Calls Try.prog 26 #[.agg #[.string id, .int .i64 num, .int .i64 sz, .int .i64 rows], .string s] w fun e w' => e = .returned (.func (.func 31) #[] #[.pointer (some ⟨w.heap.size, 0, none⟩), .pointer (some ⟨w.heap.size + 1 + 1, 0, none⟩), .pointer (some ⟨w.heap.size + 1, 0, none⟩)]) ∧
    w' = ((w.alloc (.cells #[.string id, .int .i64 num, .int .i64 sz, .int .i64 rows] 23)).alloc (.cells #[.string s] 9)).alloc (.cells #[.int .i64 (sz + 8)] 3) := by
  go_enter Try.func26, Try.ntmps26
  go_wp2_with fail
  go_ret
  exact ⟨rfl, rfl⟩
end Go.Proofs.Ytpgijmnlkfhheaa.PSecT
