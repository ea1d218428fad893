/- The matcher's longest: the longest match at a place. -/
import Derived.Test.YtaooiffnpnmdeaaMtE
import Derived.Test.YtaooiffnpnmdeaaRr
import Derived.RangeFuncLeaves
import Derived.Laws.EntriesVeiled
namespace Go.Proofs.Ytaooiffnpnmdeaa.Mt
open Go.RowKit Go.Shelf Go.Proofs.YtaooiffnpnmdeaaW.PrintWords Go.Proofs.YtaooiffnpnmdeaaW.PrintLast Go.Proofs.YtaooiffnpnmdeaaW.PrintMore
open Go.Maps Go.MapKept Go.ChangeShapes
set_option linter.unusedVariables false
set_option linter.unusedSimpArgs false
attribute [local go_sem] Oper.semAt_some
/-- The places where the three bytes stood, the last first: each is tried, till one is too far back, or no longer match may be. -/
def scan (s : ByteArray) (p : Nat) : List Nat → Nat × Nat → Nat × Nat
  | [], r => r
  | q :: rest, r => if p ≤ q then scan s p rest r else if 32768 < p - q then r else if (stepB s p q r).1 < 258 then scan s p rest (stepB s p q r) else stepB s p q r
theorem results_cc {fn : Func} {p q : Tmp} {ty tz : TypeId} (h : fn.results = #[.cell p ty, .cell q tz]) (tmps : Array Value) (P : Program) (w : World) :
    (results fn tmps).run P w =
      ((asAddr (tmps.getD p undef)).run P w).andThen fun a w₁ => ((loadVar ty a).run P w₁).andThen fun v w₂ => ((asAddr (tmps.getD q undef)).run P w₂).andThen fun b w₃ => ((loadVar tz b).run P w₃).andThen fun v2 w₄ => .ok (.tuple #[v, v2]) w₄ := by
  simp only [results, h]
  simp [Sem.run_bind, Result.andThen]
theorem wide_fn (k : Nat) : Fence.wide.fn k = True := eq_true trivial
/-- The four boxes that longest lays: the finder, the place, the length, the distance. -/
def Four (No : Nat → Prop) (b : Nat) : Nat → Prop := fun k => (((No k ∨ k = b) ∨ k = b + 1) ∨ k = b + 1 + 1) ∨ k = b + 1 + 1 + 1
theorem keep_boxed {No : Nat → Prop} {W W' : World} {B : Nat} {t : TypeId} {v : Value} (h : Boxed W B t v) (hk : Keep No W W') (hn : No B) : Boxed W' B t v := (hk.keep B hn).trans h
theorem Keep.imp {No No' : Nat → Prop} {W W' : World} (h : Keep No W W') (hi : ∀ k, No' k → No k) : Keep No' W W' := ⟨h.os, h.tape, h.output, h.size, fun k hk => h.keep k (hi k hk)⟩
theorem FS.weak {W : World} {g mb : Nat} {s : ByteArray} {fk dk : Nat} {No No' : Nat → Prop} (h : FS W g mb s fk dk No) (hi : ∀ k, No' k → No k) : FS W g mb s fk dk No' :=
  ⟨h.blk, h.grp, fun es clock hb x hx r hr hN => h.shun es clock hb x hx r hr (hi r hN), fun k hk => h.no k (hi k hk), h.gm⟩
/-- An end by the way of the text alone. -/
def Calm (Q : Act → World → Prop) : Exit → Act → World → Prop
  | .normal, a, w => Q a w
  | _, _, _ => False
theorem calm_done {Q : Act → World → Prop} {a : Act} {w : World} (h : Q a w) : Calm Q .normal a w := h
theorem calm {n : Nat} {P : Program} {c : Code} {Q : Exit → Act → World → Prop} {a : Act} {w : World} (h : c.wp P (Calm (Q .normal)) a w) : c.wpIn Fence.wide n P Q a w :=
  wpIn_wide.2 (wp_mono h fun e a w hq => by cases e <;> first | exact hq | exact hq.elim)
theorem own_slice {W : World} {base : Nat} {e : TypeId} {v : Value} {n : Nat} {xs : List Value} (h : W.ownsRow base e 1 v n xs) : ∃ a m c, v = .slice a m c := by
  rcases h.2 with ⟨rfl, _⟩ | ⟨g, cap, cur, rfl, _⟩ <;> exact ⟨_, _, _, rfl⟩
theorem ownsRow_heap {W W' : World} {base : Nat} {e : TypeId} {sz n : Nat} {v : Value} {xs : List Value} (h : W.ownsRow base e sz v n xs) (hg : ∀ g, v.ownBlock = some g → W'.heap[g]? = W.heap[g]?) : W'.ownsRow base e sz v n xs := by
  refine ⟨h.1, ?_⟩
  rcases h.2 with ⟨rfl, h0⟩ | ⟨g, cap, cur, rfl, h1, h2, r⟩
  · exact .inl ⟨rfl, h0⟩
  · exact .inr ⟨g, cap, cur, rfl, h1, (hg g rfl).trans h2, r⟩
/-- The finder in a world in which its blocks lie as they lay. -/
theorem FS.heap {W W' : World} {g mb : Nat} {s : ByteArray} {fk dk : Nat} {No : Nat → Prop} (h : FS W g mb s fk dk No) (hsz : W.heap.size ≤ W'.heap.size) (hg : W'.heap[g]? = W.heap[g]?) (hm : W'.heap[mb]? = W.heap[mb]?)
    (hr : ∀ r cs, W.heap[r]? = some (.cells cs 3 (0, 0)) → ¬ No r → W'.heap[r]? = W.heap[r]?) : FS W' g mb s fk dk No := by
  obtain ⟨n, D, h1, ⟨es, clock, hb, F, hs, hDe, hbb, hlen, hap⟩, h3⟩ := h.grp
  subst hDe
  have keep : ∀ x ∈ es.toList, ∀ zs, W.ownsInts (mb + 1) 3 .i64 x.val zs → W'.ownsInts (mb + 1) 3 .i64 x.val zs := fun x hx zs ho =>
    ⟨ownsRow_heap ho.1 fun r e => by
      obtain ⟨cs, hc⟩ := own_typed ho.1 r e
      exact hr r cs hc (h.shun es clock hb x hx r e), ho.2⟩
  have hst : ∀ x ∈ es.toList, ∀ z, rowElem (H := Unit) W (mb + 1) 3 .i64 x.val = some z → rowElem W' (mb + 1) 3 .i64 x.val = some z := fun x hx z hz => by
    obtain ⟨zs, ho, rfl⟩ := rowElem_inv hz
    exact rowElem_mk (keep x hx zs ho)
  obtain ⟨F1, hmap, _⟩ := F.stay hst
  refine ⟨hg.trans h.blk, ⟨n, _, h1, ⟨es, clock, hm.trans hb, F1, hs, by rw [hmap], hbb, fun x hx zs ho => ?_, hap⟩, h3⟩, fun es2 clock2 hb2 => h.shun es2 clock2 (hm.symm.trans hb2), fun k hk => ⟨Nat.lt_of_lt_of_le (h.no k hk).1 hsz, (h.no k hk).2⟩, h.gm⟩
  obtain ⟨y, hy⟩ := F.reads x hx
  obtain ⟨z, hz, _⟩ := Go.WideElems.rd_val hy
  obtain ⟨zs0, ho0, _⟩ := rowElem_inv hz
  rw [ho.unique (keep x hx zs0 ho0)]
  exact hlen x hx zs0 ho0
theorem backs_drop {zs : List Nat} {i : Nat} (h : i < zs.length) : (backs zs).drop i = (zs.length - 1 - i, zs.getD (zs.length - 1 - i) 0) :: (backs zs).drop (i + 1) := by
  have e1 := List.take_append_drop (i + 1) (backs zs)
  rw [backs_take h, List.append_assoc] at e1
  have e2 := List.take_append_drop i (backs zs)
  exact (List.append_cancel_left (e2.trans e1.symm))
theorem occ_le {s : ByteArray} {k : Nat} {t : List UInt8} (h : k ≤ 90000) (i : Nat) : (occ s k t).getD i 0 ≤ 90000 := by
  rw [List.getD_eq_getElem?_getD]
  cases hi : (occ s k t)[i]? with
  | none => simp
  | some q =>
    have := (List.mem_filter.1 (List.mem_of_getElem? hi)).1
    rw [List.mem_range] at this
    simp
    omega
theorem backs_snd (zs : List Nat) : (backs zs).map Prod.snd = zs.reverse := by
  unfold backs
  rw [List.map_reverse, List.map_snd_zip (by simp)]
theorem Keep.put {No : Nat → Prop} {W : World} {D : Nat} {o : Obj} (h : ∀ k, No k → k < D) : Keep No W (W.putObj D o) :=
  ⟨rfl, rfl, rfl, by rw [World.putObj_size]; exact Nat.le_refl _, fun k hk => World.putObj_heap_other (by have := h k hk; omega)⟩
theorem deferred_set2 {W : World} {D B1 B2 : Nat} {t1 t2 : TypeId} {u1 u2 v1 v2 : Value} {d : Option (List Deferred)} (h : W.heap[D]? = some (.deferred d)) (h1 : Boxed W B1 t1 u1) (h2 : Boxed W B2 t2 u2) : ((W.setCell ⟨B1, 0, none⟩ v1).setCell ⟨B2, 0, none⟩ v2).heap[D]? = some (.deferred d) := by
  have n1 : D ≠ B1 := fun e => by rw [e, show W.heap[B1]? = _ from h1] at h; cases h
  have n2 : D ≠ B2 := fun e => by rw [e, show W.heap[B2]? = _ from h2] at h; cases h
  exact (Below.heap_setCell _ _ _ D n2).trans ((Below.heap_setCell _ _ _ D n1).trans h)
/-- What longest holds while it runs. -/
structure LS (W : World) (No : Nat → Prop) (b g mb : Nat) (s : ByteArray) (p L E kn : Nat) : Prop where
  a : Boxed W (b + 1) 3 (.int .i64 (p : Int))
  f : Boxed W b 45 (.pointer (some ⟨g, 0, none⟩))
  l : Boxed W (b + 1 + 1) 3 (.int .i64 (L : Int))
  d : Boxed W (b + 1 + 1 + 1) 3 (.int .i64 (E : Int))
  fs : FS W g mb s kn kn No
  inc : No b ∧ No (b + 1) ∧ No (b + 1 + 1) ∧ No (b + 1 + 1 + 1)
theorem LS.keep {W W' : World} {No : Nat → Prop} {b g mb : Nat} {s : ByteArray} {p L E kn kn' : Nat} (h : LS W No b g mb s p L E kn) (hk : Keep No W W') (hf : FS W' g mb s kn' kn' No) : LS W' No b g mb s p L E kn' :=
  ⟨keep_boxed h.a hk h.inc.2.1, keep_boxed h.f hk h.inc.1, keep_boxed h.l hk h.inc.2.2.1, keep_boxed h.d hk h.inc.2.2.2, hf, h.inc⟩
/-- A turn of blocks that are no cells, beyond all of longest's own. -/
theorem LS.bears {W W' : World} {No : Nat → Prop} {b g mb : Nat} {s : ByteArray} {p L E kn B : Nat} {row : Option Nat} (h : LS W No b g mb s p L E kn) (hg : W.grownBy W' row) (hr : ∀ r, row = some r → B ≤ r ∧ ∃ o : Obj, W.heap[r]? = some o ∧ o.isCells = false) (hB : mb < B) : LS W' No b g mb s p L E kn := by
  have far : ∀ (q : Nat) (cs : Array Value) (t : TypeId) (fr : Nat × Nat), W.heap[q]? = some (.cells cs t fr) → W'.heap[q]? = W.heap[q]? := by
    intro q cs t fr hq
    refine hg.block q (Array.getElem?_eq_some_iff.1 hq).1 fun e => ?_
    obtain ⟨_, o, ho, hc⟩ := hr q e.symm
    rw [hq] at ho
    cases ho
    cases hc
  refine ⟨(far _ _ _ _ h.a).trans h.a, (far _ _ _ _ h.f).trans h.f, (far _ _ _ _ h.l).trans h.l, (far _ _ _ _ h.d).trans h.d, h.fs.heap hg.size (far _ _ _ _ h.fs.blk) (hg.block mb h.fs.mb_lt fun e => ?_) (fun r cs hc _ => far _ _ _ _ hc), h.inc⟩
  have := (hr mb e.symm).1
  omega
/-- The two numbers' boxes turn, and nothing else. -/
theorem LS.stored {W W' : World} {No : Nat → Prop} {b g mb : Nat} {s : ByteArray} {p L E L' E' kn : Nat} (h : LS W No b g mb s p L E kn) (h1 : Boxed W' (b + 1 + 1) 3 (.int .i64 (L' : Int))) (h2 : Boxed W' (b + 1 + 1 + 1) 3 (.int .i64 (E' : Int))) (hk : Keep (Not2 W.heap.size (b + 1 + 1) (b + 1 + 1 + 1)) W W') : LS W' No b g mb s p L' E' kn := by
  have n1 := h.fs.no _ h.inc.2.2.1
  have n2 := h.fs.no _ h.inc.2.2.2
  refine ⟨(hk.keep _ ⟨h.a.lt, by omega, by omega⟩).trans h.a, (hk.keep _ ⟨h.f.lt, by omega, by omega⟩).trans h.f, h1, h2, h.fs.heap hk.size (hk.keep g ⟨blk_lt h.fs.blk, fun e => n1.2.1 e.symm, fun e => n2.2.1 e.symm⟩) (hk.keep mb ⟨h.fs.mb_lt, fun e => n1.2.2 e.symm, fun e => n2.2.2 e.symm⟩) (fun r cs hc hn => hk.keep r ⟨(Array.getElem?_eq_some_iff.1 hc).1, fun e => hn (e ▸ h.inc.2.2.1), fun e => hn (e ▸ h.inc.2.2.2)⟩), h.inc⟩
theorem LS.store2 {W : World} {No : Nat → Prop} {b g mb : Nat} {s : ByteArray} {p L E kn : Nat} (h : LS W No b g mb s p L E kn) (L' : Nat) : LS (W.setCell ⟨b + 1 + 1, 0, none⟩ (.int .i64 (L' : Int))) No b g mb s p L' E kn :=
  ⟨h.a.other (by omega) _, h.f.other (by omega) _, h.l.set _, h.d.other (by omega) _, h.fs.turn (grownBy_setCell' _ _ _) fun k e => by cases e; exact h.inc.2.2.1, h.inc⟩
theorem LS.store3 {W : World} {No : Nat → Prop} {b g mb : Nat} {s : ByteArray} {p L E kn : Nat} (h : LS W No b g mb s p L E kn) (E' : Nat) : LS (W.setCell ⟨b + 1 + 1 + 1, 0, none⟩ (.int .i64 (E' : Int))) No b g mb s p L E' kn :=
  ⟨h.a.other (by omega) _, h.f.other (by omega) _, h.l.other (by omega) _, h.d.set _, h.fs.turn (grownBy_setCell' _ _ _) fun k e => by cases e; exact h.inc.2.2.2, h.inc⟩
/-- A block of deferred calls is shut. -/
theorem LS.shut {W : World} {No : Nat → Prop} {b g mb : Nat} {s : ByteArray} {p L E kn D : Nat} {d : Option (List Deferred)} {o : Obj} (h : LS W No b g mb s p L E kn) (hD : W.heap[D]? = some (.deferred d)) : LS (W.putObj D o) No b g mb s p L E kn := by
  have far : ∀ (q : Nat) (cs : Array Value) (t : TypeId) (fr : Nat × Nat), W.heap[q]? = some (.cells cs t fr) → (W.putObj D o).heap[q]? = W.heap[q]? := fun q cs t fr hq => World.putObj_heap_other fun e => by rw [e, hD] at hq; cases hq
  obtain ⟨n, Dm, _, ⟨es, clock, hb, _⟩, _⟩ := h.fs.grp
  exact ⟨(far _ _ _ _ h.a).trans h.a, (far _ _ _ _ h.f).trans h.f, (far _ _ _ _ h.l).trans h.l, (far _ _ _ _ h.d).trans h.d, h.fs.heap (by rw [World.putObj_size]; exact Nat.le_refl _) (far _ _ _ _ h.fs.blk) (World.putObj_heap_other fun e => by rw [e, hD] at hb; cases hb) (fun r cs hc _ => far _ _ _ _ hc), h.inc⟩
theorem LS.bx {W : World} {No : Nat → Prop} {b g mb : Nat} {s : ByteArray} {p L E kn : Nat} (h : LS W No b g mb s p L E kn) : BX W (b + 1) b (b + 1 + 1) (b + 1 + 1 + 1) g s p L E :=
  ⟨h.a, h.f, h.l, h.d, h.fs.cells.1, by omega, by omega⟩
theorem LS.turn {W W' : World} {No : Nat → Prop} {b g mb : Nat} {s : ByteArray} {p L E kn : Nat} (h : LS W No b g mb s p L E kn) (hg : W.grownBy W' none) : LS W' No b g mb s p L E kn :=
  h.keep (Keep.grown hg fun k hk => ⟨(h.fs.no k hk).1, by simp⟩) (h.fs.turn hg fun _ e => by cases e)
theorem LS.fresh {W : World} {No : Nat → Prop} {b g mb : Nat} {s : ByteArray} {p L E kn : Nat} (h : LS W No b g mb s p L E kn) (o : Obj) : LS (W.alloc o) (fun k => No k ∨ k = W.heap.size) b g mb s p L E kn :=
  ⟨h.a.alloc o, h.f.alloc o, h.l.alloc o, h.d.alloc o, h.fs.fresh o, .inl h.inc.1, .inl h.inc.2.1, .inl h.inc.2.2.1, .inl h.inc.2.2.2⟩
theorem LS.keepIn {W W' : World} {No : Nat → Prop} {b g mb : Nat} {s : ByteArray} {p L E kn : Nat} (h : LS W No b g mb s p L E kn) (hg : W.grownBy W' none) : Keep No W W' := Keep.grown hg fun k hk => ⟨(h.fs.no k hk).1, by simp⟩
/-- The world when the four boxes are laid. -/
theorem LS.start {w : World} {g mb p known : Nat} {s : ByteArray} {No : Nat → Prop} (hF : FS w g mb s known known No) :
    LS ((((w.alloc (.cells #[.pointer (some ⟨g, 0, none⟩)] 45)).alloc (.cells #[.int .i64 (p : Int)] 3)).alloc (.cells #[.int .i64 0] 3)).alloc (.cells #[.int .i64 0] 3)) (Four No w.heap.size) w.heap.size g mb s p 0 0 known ∧
    Keep No w ((((w.alloc (.cells #[.pointer (some ⟨g, 0, none⟩)] 45)).alloc (.cells #[.int .i64 (p : Int)] 3)).alloc (.cells #[.int .i64 0] 3)).alloc (.cells #[.int .i64 0] 3)) := by
  have f1 := hF.fresh (.cells #[.pointer (some ⟨g, 0, none⟩)] 45)
  have f2 := f1.fresh (.cells #[.int .i64 (p : Int)] 3)
  have f3 := f2.fresh (.cells #[.int .i64 0] 3)
  have f4 := f3.fresh (.cells #[.int .i64 0] 3)
  have b1 := (((Boxed.new w 45 (.pointer (some ⟨g, 0, none⟩))).alloc (.cells #[.int .i64 (p : Int)] 3)).alloc (.cells #[.int .i64 0] 3)).alloc (.cells #[.int .i64 0] 3)
  have b2 := ((Boxed.new (w.alloc (.cells #[.pointer (some ⟨g, 0, none⟩)] 45)) 3 (.int .i64 (p : Int))).alloc (.cells #[.int .i64 0] 3)).alloc (.cells #[.int .i64 0] 3)
  have b3 := (Boxed.new ((w.alloc (.cells #[.pointer (some ⟨g, 0, none⟩)] 45)).alloc (.cells #[.int .i64 (p : Int)] 3)) 3 (.int .i64 0)).alloc (.cells #[.int .i64 0] 3)
  have b4 := Boxed.new (((w.alloc (.cells #[.pointer (some ⟨g, 0, none⟩)] 45)).alloc (.cells #[.int .i64 (p : Int)] 3)).alloc (.cells #[.int .i64 0] 3)) 3 (.int .i64 0)
  simp only [World.size_alloc] at f4 b2 b3 b4
  refine ⟨⟨b2, b1, b3, b4, f4, .inl (.inl (.inl (.inr rfl))), .inl (.inl (.inr rfl)), .inl (.inr rfl), .inr rfl⟩, ?_⟩
  have n0 : ∀ k, No k → k < w.heap.size := fun k hk => (hF.no k hk).1
  exact Keep.below (below_alloc (below_alloc (below_alloc (below_alloc (Below.refl _ _) _) _) _) _) n0
set_option maxHeartbeats 8000000 in
set_option maxRecDepth 100000 in
theorem longest_calls (g mb p known : Nat) (s : ByteArray) (No : Nat → Prop) (w : World) (hF : FS w g mb s known known No) (hs : s.size ≤ 90000) (hp : p ≤ 90000) (hkb : known ≤ 90000) :
    Calls Try.prog 23 #[.pointer (some ⟨g, 0, none⟩), .int .i64 (p : Int)] w fun e w' => ∃ kn : Nat, ∃ r : Nat × Nat, e = .returned (.tuple #[.int .i64 (r.1 : Int), .int .i64 (r.2 : Int)]) ∧ kn ≤ 90000 ∧ FS w' g mb s kn kn No ∧ Keep No w w' ∧ (s.size < p + 3 → r = (0, 0)) ∧ (p + 3 ≤ s.size → p ≤ kn ∧ r = scan s p (occ s kn (kt s p)).reverse (0, 0)) := by
  have hno0 := hF.no
  have L0 := Aside0.mk (LS.start (p := p) hF).1
  have K0 := Aside0.mk (LS.start (p := p) hF).2
  have K0x := Aside0.mk (show ∀ {W' : World}, (((((w.alloc (.cells #[.pointer (some ⟨g, 0, none⟩)] 45)).alloc (.cells #[.int .i64 (p : Int)] 3)).alloc (.cells #[.int .i64 0] 3)).alloc (.cells #[.int .i64 0] 3))).grownBy W' none → Keep No (((((w.alloc (.cells #[.pointer (some ⟨g, 0, none⟩)] 45)).alloc (.cells #[.int .i64 (p : Int)] 3)).alloc (.cells #[.int .i64 0] 3)).alloc (.cells #[.int .i64 0] 3))) W' from fun hg => Keep.grown hg fun k hk => ⟨Nat.lt_of_lt_of_le (hno0 k hk).1 K0.out.size, by simp⟩)
  obtain ⟨b, hb⟩ : ∃ b, b = w.heap.size := ⟨_, rfl⟩
  rw [← hb] at L0
  have hno : ∀ k, No k → k < b ∧ k < w.heap.size := fun k hk => by have := (hno0 k hk).1; omega
  clear hF hno0
  by_cases hle : p + 3 ≤ s.size
  · have d1 : decide ((s.size : Int) < (p : Int) + 3) = false := decide_eq_false (by omega)
    refine (callsIn_wide (n := 3)).1 ?_
    refine callsIn_of_wp_marks Try.func23 rfl trivial ?_ rfl
    simp only [Try.ntmps23, List.size_toArray, List.length_cons, List.length_nil, Nat.reduceAdd, Nat.reduceSub, Array.replicate_succ, Array.replicate_zero, List.push_toArray, List.append_toArray, List.nil_append, List.cons_append]
    gi_wp2_with fail
    rw [← hb]
    generalize ((((w.alloc (.cells #[.pointer (some ⟨g, 0, none⟩)] 45)).alloc (.cells #[.int .i64 (p : Int)] 3)).alloc (.cells #[.int .i64 0] 3)).alloc (.cells #[.int .i64 0] 3)) = W0 at L0 K0 K0x ⊢
    have L1 := Aside0.mk (L0.out.turn (grown_drew W0))
    have K1 := Aside0.mk (K0.out.trans (K0x.out (grown_drew W0)))
    clear L0 K0 K0x hb
    have hw : IntKind.i64.wrap ((p : Int) + 3) = (p : Int) + 3 := IntWalk.i64_in _ (by omega)
    refine calm ?_
    refine start_ (n := 8) (S := fun w' => w'.cell? ⟨b + 1, 0, none⟩ = some (.int .i64 (p : Int)) ∧ w'.cell? ⟨b, 0, none⟩ = some (.pointer (some ⟨g, 0, none⟩)) ∧ w'.cell? ⟨g, 0, none⟩ = some (.string s)) (ds := []) #[false, false, false, false, false, false, false, false] (by kernel_rfl) rfl rfl ⟨L1.out.a.cell, L1.out.f.cell, L1.out.fs.cells.1⟩ (fun hHeld => ?_)
    generalize hX1 : W0.drew = X1 at L1 K1 hHeld ⊢
    clear hX1
    refine take_ (i := 0) (N := some 9) (v := ?_) (a' := ?_) #[true, false, false, false, false, false, false, false] rfl rfl (by kernel_rfl) (fun _ _ _ h => h) (Or.inl ⟨by rfl, ?_⟩) hHeld ?_ ?_
    rotate_left
    · rintro w' ⟨s0, s1, s2⟩
      go_simp
      with_reducible rfl
    rotate_left
    · simp only [Act.put, List.setIfInBounds_toArray, List.set_cons_zero, List.set_cons_succ, i64_w, i32_w]
      rfl
    refine pure_ (i := 1) (N := some 10) (v := ?_) (a' := ?_) #[true, true, false, false, false, false, false, false] rfl rfl (by kernel_rfl) (fun _ _ _ h => h) (Or.inl ⟨by rfl, ?_⟩) ?_ ?_
    rotate_left
    · intro w'
      go_simp
      with_reducible rfl
    rotate_left
    · simp only [Act.put, List.setIfInBounds_toArray, List.set_cons_zero, List.set_cons_succ, i64_w, i32_w]
      rfl
    refine take_ (i := 2) (N := some 11) (v := ?_) (a' := ?_) #[true, true, true, false, false, false, false, false] rfl rfl (by kernel_rfl) (fun _ _ _ h => h) (Or.inl ⟨by rfl, ?_⟩) hHeld ?_ ?_
    rotate_left
    · rintro w' ⟨s0, s1, s2⟩
      go_simp
      with_reducible rfl
    rotate_left
    · simp only [Act.put, List.setIfInBounds_toArray, List.set_cons_zero, List.set_cons_succ, i64_w, i32_w]
      rfl
    refine pure_ (i := 3) (N := some 12) (v := ?_) (a' := ?_) #[true, true, true, true, false, false, false, false] rfl rfl (by kernel_rfl) (fun _ _ _ h => h) (Or.inl ⟨by rfl, ?_⟩) ?_ ?_
    rotate_left
    · intro w'
      go_simp
      with_reducible rfl
    rotate_left
    · simp only [Act.put, List.setIfInBounds_toArray, List.set_cons_zero, List.set_cons_succ, i64_w, i32_w]
      rfl
    refine pure_ (i := 4) (N := some 13) (v := ?_) (a' := ?_) #[true, true, true, true, true, false, false, false] rfl rfl (by kernel_rfl) (fun _ _ _ h => h) (Or.inl ⟨by rfl, ?_⟩) ?_ ?_
    rotate_left
    · intro w'
      go_simp
      with_reducible rfl
    rotate_left
    · simp only [Act.put, List.setIfInBounds_toArray, List.set_cons_zero, List.set_cons_succ, i64_w, i32_w]
      rfl
    refine take_ (i := 5) (N := some 14) (v := ?_) (a' := ?_) #[true, true, true, true, true, true, false, false] rfl rfl (by kernel_rfl) (fun _ _ _ h => h) (Or.inl ⟨by rfl, ?_⟩) hHeld ?_ ?_
    rotate_left
    · rintro w' ⟨s0, s1, s2⟩
      go_simp
      with_reducible rfl
    rotate_left
    · simp only [Act.put, List.setIfInBounds_toArray, List.set_cons_zero, List.set_cons_succ, i64_w, i32_w]
      rfl
    refine pure_ (i := 6) (N := some 15) (v := ?_) (a' := ?_) #[true, true, true, true, true, true, true, false] rfl rfl (by kernel_rfl) (fun _ _ _ h => h) (Or.inl ⟨by rfl, ?_⟩) ?_ ?_
    rotate_left
    · intro w'
      go_simp
      with_reducible rfl
    rotate_left
    · simp only [Act.put, List.setIfInBounds_toArray, List.set_cons_zero, List.set_cons_succ, i64_w, i32_w]
      rfl
    refine pure_ (i := 7) (N := some 16) (v := ?_) (a' := ?_) #[true, true, true, true, true, true, true, true] rfl rfl (by kernel_rfl) (fun _ _ _ h => h) (Or.inl ⟨by rfl, ?_⟩) ?_ ?_
    rotate_left
    · intro w'
      go_simp
      with_reducible rfl
    rotate_left
    · simp only [Act.put, List.setIfInBounds_toArray, List.set_cons_zero, List.set_cons_succ, i64_w, i32_w]
      rfl
    refine done_ (by kernel_rfl) ?_
    refine calm_done ?_
    have c0 := L1.out.a.cell
    have c1 := L1.out.f.cell
    clear hw
    gi_wp2_with fail
    refine ⟨trivial, callsIn_wide.2 ((learn_calls g mb p known s _ _ L1.out.fs hs hp hkb).mono ?_)⟩
    rintro e X2 ⟨⟨v0, rfl⟩, kn, hk1, hk2, hk3, hF2, hKp⟩
    have L2 := Aside0.mk (L1.out.keep hKp hF2)
    have K2 := Aside0.mk (K1.out.trans (hKp.imp fun k hk => .inl (.inl (.inl (.inl hk)))))
    have HKN := Aside0.mk (And.intro (hk2 hle) (show kn ≤ 90000 by omega))
    clear hF2 hKp hk1 hk2 hk3 c0 c1 L1 K1 d1
    gi_wp2_with fail
    have hno2 : ∀ k, No k → k < X2.heap.size := fun k hk => Nat.lt_of_lt_of_le (hno k hk).2 K2.out.size
    have L4 := Aside0.mk (L2.out.fresh (.cells #[.func (.func 28) #[] #[.pointer (some ⟨b + 1, 0, none⟩), .pointer (some ⟨b, 0, none⟩), .pointer (some ⟨b + 1 + 1, 0, none⟩), .pointer (some ⟨b + 1 + 1 + 1, 0, none⟩)]] 58))
    have B4 := Aside0.mk (Boxed.new X2 58 (.func (.func 28) #[] #[.pointer (some ⟨b + 1, 0, none⟩), .pointer (some ⟨b, 0, none⟩), .pointer (some ⟨b + 1 + 1, 0, none⟩), .pointer (some ⟨b + 1 + 1 + 1, 0, none⟩)]))
    have K4 := Aside0.mk (K2.out.trans (Keep.grown (World.grownBy_alloc X2 (.cells #[.func (.func 28) #[] #[.pointer (some ⟨b + 1, 0, none⟩), .pointer (some ⟨b, 0, none⟩), .pointer (some ⟨b + 1 + 1, 0, none⟩), .pointer (some ⟨b + 1 + 1 + 1, 0, none⟩)]] 58) none) fun k hk => ⟨hno2 k hk, by simp⟩))
    obtain ⟨b6, hb6⟩ : ∃ q, X2.heap.size = q := ⟨_, rfl⟩
    have hb6l := Aside0.mk (show b + 4 ≤ b6 by have := L2.out.d.lt; omega)
    rw [hb6] at L4 B4 ⊢
    generalize X2.alloc (.cells #[.func (.func 28) #[] #[.pointer (some ⟨b + 1, 0, none⟩), .pointer (some ⟨b, 0, none⟩), .pointer (some ⟨b + 1 + 1, 0, none⟩), .pointer (some ⟨b + 1 + 1 + 1, 0, none⟩)]] 58) = X4 at L4 B4 K4 ⊢
    clear L2 K2 hno2 hb6
    have L5 := Aside0.mk (L4.out.turn (grown_drew X4))
    have K5 := Aside0.mk (K4.out.trans (Keep.grown (grown_drew X4) fun k hk => ⟨Nat.lt_of_lt_of_le (hno k hk).2 K4.out.size, by simp⟩))
    have B5 := Aside0.mk (show Boxed X4.drew b6 58 (.func (.func 28) #[] #[.pointer (some ⟨b + 1, 0, none⟩), .pointer (some ⟨b, 0, none⟩), .pointer (some ⟨b + 1 + 1, 0, none⟩), .pointer (some ⟨b + 1 + 1 + 1, 0, none⟩)]) from B4.out)
    clear L4 K4 B4
    refine calm ?_
    refine start_ (n := 9) (S := fun w' => w'.cell? ⟨b + 1, 0, none⟩ = some (.int .i64 (p : Int)) ∧ w'.cell? ⟨b, 0, none⟩ = some (.pointer (some ⟨g, 0, none⟩)) ∧ w'.cell? ⟨g, 0, none⟩ = some (.string s) ∧ w'.cell? ⟨g, 1, none⟩ = some (.map (some mb))) (ds := []) #[false, false, false, false, false, false, false, false, false] (by kernel_rfl) rfl rfl ⟨L5.out.a.cell, L5.out.f.cell, L5.out.fs.cells.1, L5.out.fs.cells.2.1⟩ (fun hHeld => ?_)
    generalize hX5 : X4.drew = X5 at L5 K5 B5 hHeld ⊢
    clear hX5
    refine take_ (i := 0) (N := some 21) (v := ?_) (a' := ?_) #[true, false, false, false, false, false, false, false, false] rfl rfl (by kernel_rfl) (fun _ _ _ h => h) (Or.inl ⟨by rfl, ?_⟩) hHeld ?_ ?_
    rotate_left
    · rintro w' ⟨s0, s1, s2, s3⟩
      go_simp
      with_reducible rfl
    rotate_left
    · simp only [Act.put, List.setIfInBounds_toArray, List.set_cons_zero, List.set_cons_succ, i64_w, i32_w]
      rfl
    refine pure_ (i := 1) (N := some 22) (v := ?_) (a' := ?_) #[true, true, false, false, false, false, false, false, false] rfl rfl (by kernel_rfl) (fun _ _ _ h => h) (Or.inl ⟨by rfl, ?_⟩) ?_ ?_
    rotate_left
    · intro w'
      go_simp
      with_reducible rfl
    rotate_left
    · simp only [Act.put, List.setIfInBounds_toArray, List.set_cons_zero, List.set_cons_succ, i64_w, i32_w]
      rfl
    refine pure_ (i := 2) (N := some 23) (v := ?_) (a' := ?_) #[true, true, true, false, false, false, false, false, false] rfl rfl (by kernel_rfl) (fun _ _ _ h => h) (Or.inl ⟨by rfl, ?_⟩) ?_ ?_
    rotate_left
    · intro w'
      go_simp
      with_reducible rfl
    rotate_left
    · simp only [Act.put, List.setIfInBounds_toArray, List.set_cons_zero, List.set_cons_succ, i64_w, i32_w]
      rfl
    refine take_ (i := 3) (N := some 24) (v := ?_) (a' := ?_) #[true, true, true, true, false, false, false, false, false] rfl rfl (by kernel_rfl) (fun _ _ _ h => h) (Or.inl ⟨by rfl, ?_⟩) hHeld ?_ ?_
    rotate_left
    · rintro w' ⟨s0, s1, s2, s3⟩
      go_simp
      with_reducible rfl
    rotate_left
    · simp only [Act.put, List.setIfInBounds_toArray, List.set_cons_zero, List.set_cons_succ, i64_w, i32_w]
      rfl
    refine take_ (i := 4) (N := some 25) (v := ?_) (a' := ?_) #[true, true, true, true, true, false, false, false, false] rfl rfl (by kernel_rfl) (fun _ _ _ h => h) (Or.inl ⟨by rfl, ?_⟩) hHeld ?_ ?_
    rotate_left
    · rintro w' ⟨s0, s1, s2, s3⟩
      go_simp
      with_reducible rfl
    rotate_left
    · simp only [Act.put, List.setIfInBounds_toArray, List.set_cons_zero, List.set_cons_succ, i64_w, i32_w]
      rfl
    refine take_ (i := 5) (N := some 26) (v := ?_) (a' := ?_) #[true, true, true, true, true, true, false, false, false] rfl rfl (by kernel_rfl) (fun _ _ _ h => h) (Or.inl ⟨by rfl, ?_⟩) hHeld ?_ ?_
    rotate_left
    · rintro w' ⟨s0, s1, s2, s3⟩
      go_simp
      with_reducible rfl
    rotate_left
    · simp only [Act.put, List.setIfInBounds_toArray, List.set_cons_zero, List.set_cons_succ, i64_w, i32_w]
      rfl
    refine one_ (i := 6) (N := some 27) #[true, true, true, true, true, true, true, false, false] rfl rfl (by kernel_rfl) (by decide) (fun K hK => ?_)
    refine goes_ Try.func31 (by kernel_rfl) rfl #[.pointer (some ⟨g, 0, none⟩), .int .i64 (p : Int)] (by rfl) rfl rfl (by simp only [List.map_toArray, List.map_cons, List.map_nil]; rfl) ?_
    with_reducible refine (key_calls g p s _ hle (by omega) L5.out.fs.cells.1).mono ?_
    rintro e w' ⟨rfl, rfl⟩
    refine ⟨_, rfl, ?_⟩
    refine hK.out _ _ ⟨L5.out.a.cell, L5.out.f.cell, L5.out.fs.cells.1, L5.out.fs.cells.2.1⟩ (fun hHeld => ?_)
    clear hK K
    refine norm_ (a' := ?_) ?_ ?_
    rotate_left
    · show Act.put _ (some 27) _ = _
      simp only [Act.put, List.setIfInBounds_toArray, List.set_cons_zero, List.set_cons_succ, i64_w, i32_w]
      rfl
    obtain ⟨n, D, v, zs, hzs, hn, hD, hown0, hlk, hoi, hol, hback, hsv⟩ := L5.out.fs.look (by have := HKN.out.2; omega) (s.extract p (p + 3)) (by rw [ByteArray.size_extract]; omega)
    have VV := Aside0.mk (And.intro hzs (And.intro hoi hsv))
    have VN := Aside0.mk (Nat.le_trans hol hn)
    clear hzs hn hD hown0 hoi hol hback hsv
    obtain ⟨va, vn, vc, rfl⟩ : ∃ a n c, v = .slice a n c := own_slice VV.out.2.1.1
    refine one_ (i := 7) (N := some 28) #[true, true, true, true, true, true, true, true, false] rfl rfl (by kernel_rfl) (by decide) (fun K hK => ?_)
    refine value_ (w1 := X5) (v := .slice va vn vc) (by rfl) rfl ?_ ?_
    · go_simp
    refine hK.out _ _ ⟨L5.out.a.cell, L5.out.f.cell, L5.out.fs.cells.1, L5.out.fs.cells.2.1⟩ (fun hHeld => ?_)
    clear hK K
    refine norm_ (a' := ?_) ?_ ?_
    rotate_left
    · show Act.put _ (some 28) _ = _
      simp only [Act.put, List.setIfInBounds_toArray, List.set_cons_zero, List.set_cons_succ, i64_w, i32_w]
      rfl
    refine one_ (i := 8) (N := some 29) #[true, true, true, true, true, true, true, true, true] rfl rfl (by kernel_rfl) (by decide) (fun K hK => ?_)
    refine goes_ Try.func30 (by kernel_rfl) rfl #[.slice va vn vc] (by rfl) rfl rfl (by simp only [List.map_toArray, List.map_cons, List.map_nil]; rfl) ?_
    with_reducible refine (backward_calls va vn vc _).mono ?_
    rintro e w' ⟨rfl, rfl⟩
    refine ⟨_, rfl, ?_⟩
    have L6 := Aside0.mk (L5.out.fresh (.cells #[.slice va vn vc] 51))
    refine hK.out _ _ ⟨L6.out.a.cell, L6.out.f.cell, L6.out.fs.cells.1, L6.out.fs.cells.2.1⟩ (fun hHeld => ?_)
    clear hK K
    refine norm_ (a' := ?_) ?_ ?_
    rotate_left
    · show Act.put _ (some 29) _ = _
      simp only [Act.put, List.setIfInBounds_toArray, List.set_cons_zero, List.set_cons_succ, i64_w, i32_w]
      rfl
    refine done_ (by kernel_rfl) ?_
    refine calm_done ?_
    have K6 := Aside0.mk (K5.out.trans (Keep.grown (World.grownBy_alloc X5 (.cells #[.slice va vn vc] 51) none) fun k hk => ⟨Nat.lt_of_lt_of_le (hno k hk).2 K5.out.size, by simp⟩))
    have B6 := Aside0.mk (B5.out.alloc (.cells #[.slice va vn vc] 51))
    have S6 := Aside0.mk (Boxed.new X5 51 (.slice va vn vc))
    gi_wp2_with fail
    obtain ⟨b7, hb7⟩ : ∃ q, X5.heap.size = q := ⟨_, rfl⟩
    rw [hb7] at L6 S6 ⊢
    have O6 := Aside0.mk (And.intro VV.out.1 (And.intro (VV.out.2.1.alloc (.cells #[.slice va vn vc] 51)) VV.out.2.2))
    have hb7l := Aside0.mk (show b6 ≠ b7 ∧ b + 4 ≤ b7 ∧ (∀ q, (Value.slice va vn vc).ownBlock = some q → q < b7) from ⟨by have := B5.out.lt; omega, by have := L5.out.d.lt; omega, fun q e => by have := (VV.out.2.1.1.lt q e).2; omega⟩)
    generalize X5.alloc (.cells #[.slice va vn vc] 51) = W6 at L6 K6 B6 S6 O6 ⊢
    obtain ⟨zN, hzN⟩ : ∃ zN, occ s kn (kt s p) = zN := ⟨_, rfl⟩
    obtain rfl : zs = ints zN := by rw [← hzN]; exact O6.out.1
    have HZN := Aside0.mk hzN
    have hzl : zN.length ≤ 100000 := by rw [← hzN]; exact Nat.le_trans (occ_len _ _ _) (by have := HKN.out.2; omega)
    clear L5 K5 B5 VV VN hHeld hlk hb7 hzN
    refine Rs.range_stop rfl (by decide) (gf := 33) (lb := #[.pointer (some ⟨b7, 0, none⟩)]) rfl trivial (enters_of Try.func33 (by kernel_rfl) rfl) (b := fun k => k = b7 ∨ (Value.slice va vn vc).ownBlock = some k) ?hb
      (back_tells 2 b7 _ zN (mb + 1) W6 hzl S6.out O6.out.2.1.1) (fun _ => rfl)
      (fun pre W => ∃ L E : Nat, LS W (fun k => (Four No b k ∨ k = b6) ∨ k = b7) b g mb s p L E kn ∧ Boxed W b6 58 (.func (.func 28) #[] #[.pointer (some ⟨b + 1, 0, none⟩), .pointer (some ⟨b, 0, none⟩), .pointer (some ⟨b + 1 + 1, 0, none⟩), .pointer (some ⟨b + 1 + 1 + 1, 0, none⟩)]) ∧ Keep No w W ∧ L ≤ 258 ∧ scan s p ((backs zN).map Prod.snd) (0, 0) = scan s p (((backs zN).drop pre.length).map Prod.snd) (L, E))
      (fun pre W => ∃ L E : Nat, LS W (fun k => (Four No b k ∨ k = b6) ∨ k = b7) b g mb s p L E kn ∧ Keep No w W ∧ scan s p ((backs zN).map Prod.snd) (0, 0) = (L, E))
      ?bI ?bIx ⟨0, 0, L6.out, B6.out, K6.out, by decide, rfl⟩ 0 (fun x a' W => a' = { tmps := #[.pointer (some ⟨g, 0, none⟩), .int .i64 (p : Int), .pointer (some ⟨b, 0, none⟩), .pointer (some ⟨b + 1, 0, none⟩), .pointer (some ⟨b + 1 + 1, 0, none⟩), .pointer (some ⟨b + 1 + 1 + 1, 0, none⟩), .pointer (some ⟨b6, 0, none⟩), undef, .int .i64 (x.2 : Int), .int .i64 (p : Int), .int .i64 ((p : Int) + 3), .pointer (some ⟨g, 0, none⟩), .pointer (some ⟨g, 0, none⟩), .pointer (some ⟨g, 0, none⟩), .string s, .int .i64 (s.size : Int), .bool false, .pointer (some ⟨g, 0, none⟩), .int .i64 (p : Int), v0, .func (.func 28) #[] #[.pointer (some ⟨b + 1, 0, none⟩), .pointer (some ⟨b, 0, none⟩), .pointer (some ⟨b + 1 + 1, 0, none⟩), .pointer (some ⟨b + 1 + 1 + 1, 0, none⟩)], .pointer (some ⟨g, 0, none⟩), .pointer (some ⟨g, 0, none⟩), .pointer (some ⟨g, 1, none⟩), .map (some mb), .pointer (some ⟨g, 0, none⟩), .int .i64 (p : Int), .string (s.extract p (p + 3)), .slice va vn vc, .func (.func 33) #[] #[.pointer (some ⟨b7, 0, none⟩)], .int .i64 (x.1 : Int), .int .i64 (x.2 : Int), undef, undef, undef, undef, undef, undef], defers := [] }) ?bA ?assign ?body ?done ?stop
    case hb =>
      rintro k (rfl | e)
      · exact S6.out.lt
      · exact (O6.out.2.1.1.lt k e).2
    case bI =>
      rintro pre X Y row ⟨L, E, h1, h2, h3, h4, h5⟩ hg hr
      refine ⟨L, E, h1.bears hg hr L6.out.fs.mb_lt, h2.kept hg (fun e => ?_), h3.trans (Keep.grown hg fun k hk => ⟨Nat.lt_of_lt_of_le (hno k hk).2 h3.size, fun e => ?_⟩), h4, h5⟩
      · obtain ⟨_, o, ho, hc⟩ := hr b6 e.symm
        rw [show X.heap[b6]? = _ from h2] at ho
        cases ho
        cases hc
      · have := (hr k e.symm).1
        have := (hno k hk).2
        have := K6.out.size
        omega
    case bIx =>
      rintro pre X Y row ⟨L, E, h1, h3, h5⟩ hg hr
      refine ⟨L, E, h1.bears hg hr L6.out.fs.mb_lt, h3.trans (Keep.grown hg fun k hk => ⟨Nat.lt_of_lt_of_le (hno k hk).2 h3.size, fun e => ?_⟩), h5⟩
      have := (hr k e.symm).1
      have := (hno k hk).2
      have := K6.out.size
      omega
    case bA =>
      rintro x a' _ X Y row h1 hg hr
      exact h1
    case assign =>
      rintro l pre x W K hI hbW hK
      gi_wp2_with fail
      exact hK _ _ (Rs.Stays.refl _ _ _) hI rfl
    case body =>
      rintro l pre x a' W ⟨L, E, h1, h2, h3, h4, h5⟩ rfl hN hbW
      obtain ⟨hlt, hpre, rfl⟩ := toldB_last hN
      have hdrop : (backs zN).drop pre.length = (zN.length - 1 - pre.length, zN.getD (zN.length - 1 - pre.length) 0) :: (backs zN).drop (pre.length + 1) := backs_drop hlt
      have hq9 : zN.getD (zN.length - 1 - pre.length) 0 ≤ 90000 := by rw [← HZN.out]; exact occ_le (by have := HKN.out.2; omega) _
      rw [hdrop] at h5
      have hlen : ∀ x : Nat × Nat, (pre ++ [x]).length = pre.length + 1 := fun x => by simp
      dsimp only
      simp only [hlen]
      generalize zN.getD (zN.length - 1 - pre.length) 0 = q at *
      generalize zN.length - 1 - pre.length = ix at *
      have c6 := h2.cell
      have H1 := Aside0.mk h1
      have H2 := Aside0.mk h2
      have H3 := Aside0.mk h3
      have H5 := Aside0.mk h5
      have HN := Aside0.mk (And.intro hbW hlen)
      clear h1 h2 h3 h5 hdrop hpre hN hbW hlen
      by_cases hq : p ≤ q
      · gi_wp2_with fail
        refine ⟨trivial, Rr.callsIn_round ((better_skip (b + 1) b (b + 1 + 1) (b + 1 + 1 + 1) g s p L E q W H1.out.bx hq (by omega)).mono ?_)⟩
        rintro e W' ⟨rfl, rfl⟩
        gi_wp2_with fail
        refine ⟨Rs.Stays.refl _ _ _, L, E, H1.out, H2.out, H3.out, h4, ?_⟩
        have e5 := H5.out
        rw [List.map_cons, scan, if_pos hq] at e5
        exact e5
      · by_cases hf : 32768 < p - q
        · gi_wp2_with fail
          refine ⟨trivial, Rr.callsIn_round ((better_far (b + 1) b (b + 1 + 1) (b + 1 + 1 + 1) g s p L E q W H1.out.bx (by omega) hf (by omega)).mono ?_)⟩
          rintro e W' ⟨rfl, rfl⟩
          gi_wp2_with fail
          refine ⟨trivial, Rs.Stays.refl _ _ _, L, E, H1.out, H3.out, ?_⟩
          have e5 := H5.out
          rw [List.map_cons, scan, if_neg hq, if_pos hf] at e5
          exact e5
        · gi_wp2_with fail
          refine ⟨trivial, Rr.callsIn_round ((better_try (b + 1) b (b + 1 + 1) (b + 1 + 1 + 1) g s p L E q W H1.out.bx (by omega) (by omega) (by omega) hs h4).mono ?_)⟩
          have e5 := H5.out
          rw [List.map_cons, scan, if_neg hq, if_neg hf] at e5
          have E5 := Aside0.mk e5
          have hsb : (stepB s p q (L, E)).1 ≤ 258 := by
            unfold stepB
            split
            · exact ml_le _ _ _
            · exact h4
          clear e5
          generalize stepB s p q (L, E) = r at E5 hsb ⊢
          obtain ⟨L', E'⟩ := r
          dsimp only at hsb ⊢
          rintro e W' ⟨rfl, g1, g2, g3, g4⟩
          have G1 := Aside0.mk (H1.out.stored g1 g2 g3)
          have G2 := Aside0.mk (keep_boxed (No := Not2 W.heap.size (b + 1 + 1) (b + 1 + 1 + 1)) H2.out g3 ⟨H2.out.lt, by have := hb6l.out; omega, by have := hb6l.out; omega⟩)
          have G3 := Aside0.mk (H3.out.trans (g3.imp fun k hk => ⟨Nat.lt_of_lt_of_le (hno k hk).2 H3.out.size, by have := (hno k hk).1; omega, by have := (hno k hk).1; omega⟩))
          have G4 : Aside0 (Rs.Stays W6.heap.size (fun k => k = b7 ∨ (Value.slice va vn vc).ownBlock = some k) W W') := by
            have hl1 : b + 1 + 1 < W6.heap.size := L6.out.l.lt
            have hl2 : b + 1 + 1 + 1 < W6.heap.size := L6.out.d.lt
            refine ⟨⟨g3.size, ?_, ?_⟩⟩
            · intro k o hB ho hc
              refine (g3.keep k ⟨(Array.getElem?_eq_some_iff.1 ho).1, ?_, ?_⟩).trans ho
              · intro e; omega
              · intro e; omega
            · intro k hk
              refine g3.keep k ⟨HN.out.1 k hk, ?_, ?_⟩
              · rintro rfl
                rcases hk with e | e
                · have := hb7l.out.2.1; omega
                · exact O6.out.2.2 _ (.inl (.inl (.inr rfl))) e
              · rintro rfl
                rcases hk with e | e
                · have := hb7l.out.2.1; omega
                · exact O6.out.2.2 _ (.inl (.inr rfl)) e
          clear g1 g2 g3 g4
          by_cases hlt : L' < 258
          · have dl : decide (L' < 258) = true := decide_eq_true hlt
            gi_wp2_with fail
            refine ⟨G4.out, L', E', G1.out, G2.out, G3.out, hsb, ?_⟩
            have e5 := E5.out
            rw [if_pos hlt] at e5
            exact e5
          · have dl : decide (L' < 258) = false := decide_eq_false hlt
            gi_wp2_with fail
            refine ⟨trivial, G4.out, L', E', G1.out, G3.out, ?_⟩
            have e5 := E5.out
            rw [if_neg hlt] at e5
            exact e5
    case done =>
      rintro D xs W hD rfl ⟨L, E, h1, h2, h3, h4, h5⟩ hK
      have hfin : scan s p ((backs zN).map Prod.snd) (0, 0) = (L, E) := by
        rw [h5, List.drop_of_length_le (Nat.le_refl _)]
        rfl
      have H1 := Aside0.mk (h1.turn (grown_drew W))
      have HK := Aside0.mk hK
      have H3 := Aside0.mk (h3.trans (Keep.grown (grown_drew W) fun k hk => ⟨Nat.lt_of_lt_of_le (hno k hk).2 h3.size, by simp⟩))
      have HF := Aside0.mk hfin
      have HD := Aside0.mk hD
      clear h1 h3 hfin hK hD
      gi_wp2_with fail
      refine calm ?_
      refine start_ (n := 4) (S := fun w' => w'.cell? ⟨b + 1 + 1, 0, none⟩ = some (.int .i64 (L : Int)) ∧ w'.cell? ⟨b + 1 + 1 + 1, 0, none⟩ = some (.int .i64 (E : Int))) (ds := [3]) #[false, false, false, false] (by kernel_rfl) rfl rfl ⟨H1.out.l.cell, H1.out.d.cell⟩ (fun hHeld => ?_)
      have HK1 := Aside0.mk (show W.drew.heap[D]? = some (.deferred (some [])) from HK.out)
      have HD1 := Aside0.mk (show w.heap.size ≤ W.drew.heap.size from H3.out.size)
      generalize hX8 : W.drew = X8 at H1 H3 HK1 HD1 hHeld ⊢
      clear hX8
      have c4 := H1.out.l.cell
      have f4 := H1.out.l.frozen
      have x1 := H1.out.l.set (.int .i64 (L : Int))
      have x2 := H1.out.d.other (show b + 1 + 1 + 1 ≠ b + 1 + 1 by omega) (.int .i64 (L : Int))
      have c5 := x2.cell
      have f5 := x2.frozen
      refine take_ (i := 0) (N := some 36) (v := ?_) (a' := ?_) #[true, false, false, false] rfl rfl (by kernel_rfl) (fun _ _ _ h => h) (Or.inl ⟨by rfl, ?_⟩) hHeld ?_ ?_
      rotate_left
      · rintro w' ⟨s0, s1⟩
        go_simp
        with_reducible rfl
      rotate_left
      · simp only [Act.put, List.setIfInBounds_toArray, List.set_cons_zero, List.set_cons_succ, i64_w, i32_w]
        rfl
      refine take_ (i := 1) (N := some 37) (v := ?_) (a' := ?_) #[true, true, false, false] rfl rfl (by kernel_rfl) (fun _ _ _ h => h) (Or.inl ⟨by rfl, ?_⟩) hHeld ?_ ?_
      rotate_left
      · rintro w' ⟨s0, s1⟩
        go_simp
        with_reducible rfl
      rotate_left
      · simp only [Act.put, List.setIfInBounds_toArray, List.set_cons_zero, List.set_cons_succ, i64_w, i32_w]
        rfl
      refine one_ (i := 2) (N := none) #[true, true, true, false] rfl rfl (by kernel_rfl) (by decide) (fun K hK => ?_)
      refine skip_ (w1 := ?_) (by rfl) rfl ?_ ?_
      rotate_left
      · go_simp
        rfl
      refine hK.out _ _ ⟨x1.cell, x2.cell⟩ (fun hHeld => ?_)
      clear hK K
      have Y1 := Aside0.mk (H1.out.store2 L)
      have Y2 := Aside0.mk (Y1.out.store3 E)
      have ZZ := Aside0.mk (And.intro Y2.out (And.intro ((H3.out.trans (Keep.grown (grownBy_setCell' X8 (b + 1 + 1) (.int .i64 (L : Int))) (fun k hk => ⟨Nat.lt_of_lt_of_le (hno k hk).2 HD1.out, fun e => by have := (hno k hk).1; cases e; omega⟩))).trans (Keep.grown (grownBy_setCell' _ (b + 1 + 1 + 1) (.int .i64 (E : Int))) (fun k hk => ⟨by have := Nat.lt_of_lt_of_le (hno k hk).2 HD1.out; simp; omega, fun e => by have := (hno k hk).1; cases e; omega⟩))) (And.intro Y2.out.d (deferred_set2 (v1 := .int .i64 (L : Int)) (v2 := .int .i64 (E : Int)) HK1.out H1.out.l H1.out.d))))
      refine last_ (i := 3) (N := none) #[true, true, true, true] rfl rfl (by kernel_rfl) (by decide) (fun K hK => ?_)
      refine skip_ (w1 := ?_) (by rfl) rfl ?_ ?_
      rotate_left
      · go_simp
        rfl
      refine hK.out _ _ ?_
      clear hK K
      refine done_ (by kernel_rfl) ?_
      refine calm_done ?_
      gi_wp2_with fail
      obtain ⟨z1, z2, z3, z4⟩ := ZZ.out
      refine ⟨by simp, .inl ⟨_, _, rfl, run_takeDeferred z4, ?_⟩⟩
      have z5 := z1.shut (o := .deferred none) z4
      have m1 := z5.l.cell
      have m2 := z5.d.cell
      refine ⟨.tuple #[.int .i64 (L : Int), .int .i64 (E : Int)], by rw [results_cc rfl]; go_simp, kn, (L, E), rfl, HKN.out.2, z5.fs.weak (fun k hk => .inl (.inl (.inl (.inl (.inl (.inl hk)))))), z2.trans (Keep.put (fun k hk => by have := (hno k hk).2; have := K6.out.size; have := HD.out; omega)), fun h => by omega, fun _ => ⟨HKN.out.1, ?_⟩⟩
      rw [← HF.out, HZN.out, backs_snd]
    case stop =>
      rintro D xs W hD ⟨L, E, h1, h3, hfin⟩ hK
      have H1 := Aside0.mk (h1.turn (grown_drew W))
      have HK := Aside0.mk hK
      have H3 := Aside0.mk (h3.trans (Keep.grown (grown_drew W) fun k hk => ⟨Nat.lt_of_lt_of_le (hno k hk).2 h3.size, by simp⟩))
      have HF := Aside0.mk hfin
      have HD := Aside0.mk hD
      clear h1 h3 hfin hK hD
      gi_wp2_with fail
      refine calm ?_
      refine start_ (n := 4) (S := fun w' => w'.cell? ⟨b + 1 + 1, 0, none⟩ = some (.int .i64 (L : Int)) ∧ w'.cell? ⟨b + 1 + 1 + 1, 0, none⟩ = some (.int .i64 (E : Int))) (ds := [3]) #[false, false, false, false] (by kernel_rfl) rfl rfl ⟨H1.out.l.cell, H1.out.d.cell⟩ (fun hHeld => ?_)
      have HK1 := Aside0.mk (show W.drew.heap[D]? = some (.deferred (some [])) from HK.out)
      have HD1 := Aside0.mk (show w.heap.size ≤ W.drew.heap.size from H3.out.size)
      generalize hX8 : W.drew = X8 at H1 H3 HK1 HD1 hHeld ⊢
      clear hX8
      have c4 := H1.out.l.cell
      have f4 := H1.out.l.frozen
      have x1 := H1.out.l.set (.int .i64 (L : Int))
      have x2 := H1.out.d.other (show b + 1 + 1 + 1 ≠ b + 1 + 1 by omega) (.int .i64 (L : Int))
      have c5 := x2.cell
      have f5 := x2.frozen
      refine take_ (i := 0) (N := some 36) (v := ?_) (a' := ?_) #[true, false, false, false] rfl rfl (by kernel_rfl) (fun _ _ _ h => h) (Or.inl ⟨by rfl, ?_⟩) hHeld ?_ ?_
      rotate_left
      · rintro w' ⟨s0, s1⟩
        go_simp
        with_reducible rfl
      rotate_left
      · simp only [Act.put, List.setIfInBounds_toArray, List.set_cons_zero, List.set_cons_succ, i64_w, i32_w]
        rfl
      refine take_ (i := 1) (N := some 37) (v := ?_) (a' := ?_) #[true, true, false, false] rfl rfl (by kernel_rfl) (fun _ _ _ h => h) (Or.inl ⟨by rfl, ?_⟩) hHeld ?_ ?_
      rotate_left
      · rintro w' ⟨s0, s1⟩
        go_simp
        with_reducible rfl
      rotate_left
      · simp only [Act.put, List.setIfInBounds_toArray, List.set_cons_zero, List.set_cons_succ, i64_w, i32_w]
        rfl
      refine one_ (i := 2) (N := none) #[true, true, true, false] rfl rfl (by kernel_rfl) (by decide) (fun K hK => ?_)
      refine skip_ (w1 := ?_) (by rfl) rfl ?_ ?_
      rotate_left
      · go_simp
        rfl
      refine hK.out _ _ ⟨x1.cell, x2.cell⟩ (fun hHeld => ?_)
      clear hK K
      have Y1 := Aside0.mk (H1.out.store2 L)
      have Y2 := Aside0.mk (Y1.out.store3 E)
      have ZZ := Aside0.mk (And.intro Y2.out (And.intro ((H3.out.trans (Keep.grown (grownBy_setCell' X8 (b + 1 + 1) (.int .i64 (L : Int))) (fun k hk => ⟨Nat.lt_of_lt_of_le (hno k hk).2 HD1.out, fun e => by have := (hno k hk).1; cases e; omega⟩))).trans (Keep.grown (grownBy_setCell' _ (b + 1 + 1 + 1) (.int .i64 (E : Int))) (fun k hk => ⟨by have := Nat.lt_of_lt_of_le (hno k hk).2 HD1.out; simp; omega, fun e => by have := (hno k hk).1; cases e; omega⟩))) (And.intro Y2.out.d (deferred_set2 (v1 := .int .i64 (L : Int)) (v2 := .int .i64 (E : Int)) HK1.out H1.out.l H1.out.d))))
      refine last_ (i := 3) (N := none) #[true, true, true, true] rfl rfl (by kernel_rfl) (by decide) (fun K hK => ?_)
      refine skip_ (w1 := ?_) (by rfl) rfl ?_ ?_
      rotate_left
      · go_simp
        rfl
      refine hK.out _ _ ?_
      clear hK K
      refine done_ (by kernel_rfl) ?_
      refine calm_done ?_
      gi_wp2_with fail
      obtain ⟨z1, z2, z3, z4⟩ := ZZ.out
      refine ⟨by simp, .inl ⟨_, _, rfl, run_takeDeferred z4, ?_⟩⟩
      have z5 := z1.shut (o := .deferred none) z4
      have m1 := z5.l.cell
      have m2 := z5.d.cell
      refine ⟨.tuple #[.int .i64 (L : Int), .int .i64 (E : Int)], by rw [results_cc rfl]; go_simp, kn, (L, E), rfl, HKN.out.2, z5.fs.weak (fun k hk => .inl (.inl (.inl (.inl (.inl (.inl hk)))))), z2.trans (Keep.put (fun k hk => by have := (hno k hk).2; have := K6.out.size; have := HD.out; omega)), fun h => by omega, fun _ => ⟨HKN.out.1, ?_⟩⟩
      rw [← HF.out, HZN.out, backs_snd]
  · have d1 : decide ((s.size : Int) < (p : Int) + 3) = true := decide_eq_true (by omega)
    go_enter Try.func23, Try.ntmps23
    go_wp2_with fail
    rw [← hb]
    generalize ((((w.alloc (.cells #[.pointer (some ⟨g, 0, none⟩)] 45)).alloc (.cells #[.int .i64 (p : Int)] 3)).alloc (.cells #[.int .i64 0] 3)).alloc (.cells #[.int .i64 0] 3)) = W0 at L0 K0 K0x ⊢
    have L1 := Aside0.mk (L0.out.turn (grown_drew W0))
    have K1 := Aside0.mk (K0.out.trans (K0x.out (grown_drew W0)))
    clear L0 K0 K0x hb
    have hw : IntKind.i64.wrap ((p : Int) + 3) = (p : Int) + 3 := IntWalk.i64_in _ (by omega)
    refine start_ (n := 8) (S := fun w' => w'.cell? ⟨b + 1, 0, none⟩ = some (.int .i64 (p : Int)) ∧ w'.cell? ⟨b, 0, none⟩ = some (.pointer (some ⟨g, 0, none⟩)) ∧ w'.cell? ⟨g, 0, none⟩ = some (.string s)) (ds := []) #[false, false, false, false, false, false, false, false] (by kernel_rfl) rfl rfl ⟨L1.out.a.cell, L1.out.f.cell, L1.out.fs.cells.1⟩ (fun hHeld => ?_)
    generalize hX1 : W0.drew = X1 at L1 K1 hHeld ⊢
    clear hX1
    refine take_ (i := 0) (N := some 9) (v := ?_) (a' := ?_) #[true, false, false, false, false, false, false, false] rfl rfl (by kernel_rfl) (fun _ _ _ h => h) (Or.inl ⟨by rfl, ?_⟩) hHeld ?_ ?_
    rotate_left
    · rintro w' ⟨s0, s1, s2⟩
      go_simp
      with_reducible rfl
    rotate_left
    · simp only [Act.put, List.setIfInBounds_toArray, List.set_cons_zero, List.set_cons_succ, i64_w, i32_w]
      rfl
    refine pure_ (i := 1) (N := some 10) (v := ?_) (a' := ?_) #[true, true, false, false, false, false, false, false] rfl rfl (by kernel_rfl) (fun _ _ _ h => h) (Or.inl ⟨by rfl, ?_⟩) ?_ ?_
    rotate_left
    · intro w'
      go_simp
      with_reducible rfl
    rotate_left
    · simp only [Act.put, List.setIfInBounds_toArray, List.set_cons_zero, List.set_cons_succ, i64_w, i32_w]
      rfl
    refine take_ (i := 2) (N := some 11) (v := ?_) (a' := ?_) #[true, true, true, false, false, false, false, false] rfl rfl (by kernel_rfl) (fun _ _ _ h => h) (Or.inl ⟨by rfl, ?_⟩) hHeld ?_ ?_
    rotate_left
    · rintro w' ⟨s0, s1, s2⟩
      go_simp
      with_reducible rfl
    rotate_left
    · simp only [Act.put, List.setIfInBounds_toArray, List.set_cons_zero, List.set_cons_succ, i64_w, i32_w]
      rfl
    refine pure_ (i := 3) (N := some 12) (v := ?_) (a' := ?_) #[true, true, true, true, false, false, false, false] rfl rfl (by kernel_rfl) (fun _ _ _ h => h) (Or.inl ⟨by rfl, ?_⟩) ?_ ?_
    rotate_left
    · intro w'
      go_simp
      with_reducible rfl
    rotate_left
    · simp only [Act.put, List.setIfInBounds_toArray, List.set_cons_zero, List.set_cons_succ, i64_w, i32_w]
      rfl
    refine pure_ (i := 4) (N := some 13) (v := ?_) (a' := ?_) #[true, true, true, true, true, false, false, false] rfl rfl (by kernel_rfl) (fun _ _ _ h => h) (Or.inl ⟨by rfl, ?_⟩) ?_ ?_
    rotate_left
    · intro w'
      go_simp
      with_reducible rfl
    rotate_left
    · simp only [Act.put, List.setIfInBounds_toArray, List.set_cons_zero, List.set_cons_succ, i64_w, i32_w]
      rfl
    refine take_ (i := 5) (N := some 14) (v := ?_) (a' := ?_) #[true, true, true, true, true, true, false, false] rfl rfl (by kernel_rfl) (fun _ _ _ h => h) (Or.inl ⟨by rfl, ?_⟩) hHeld ?_ ?_
    rotate_left
    · rintro w' ⟨s0, s1, s2⟩
      go_simp
      with_reducible rfl
    rotate_left
    · simp only [Act.put, List.setIfInBounds_toArray, List.set_cons_zero, List.set_cons_succ, i64_w, i32_w]
      rfl
    refine pure_ (i := 6) (N := some 15) (v := ?_) (a' := ?_) #[true, true, true, true, true, true, true, false] rfl rfl (by kernel_rfl) (fun _ _ _ h => h) (Or.inl ⟨by rfl, ?_⟩) ?_ ?_
    rotate_left
    · intro w'
      go_simp
      with_reducible rfl
    rotate_left
    · simp only [Act.put, List.setIfInBounds_toArray, List.set_cons_zero, List.set_cons_succ, i64_w, i32_w]
      rfl
    refine pure_ (i := 7) (N := some 16) (v := ?_) (a' := ?_) #[true, true, true, true, true, true, true, true] rfl rfl (by kernel_rfl) (fun _ _ _ h => h) (Or.inl ⟨by rfl, ?_⟩) ?_ ?_
    rotate_left
    · intro w'
      go_simp
      with_reducible rfl
    rotate_left
    · simp only [Act.put, List.setIfInBounds_toArray, List.set_cons_zero, List.set_cons_succ, i64_w, i32_w]
      rfl
    refine done_ (by kernel_rfl) ?_
    have c4 := L1.out.l.cell
    have f4 := L1.out.l.frozen
    have e5 := L1.out.d.other (show b + 1 + 1 + 1 ≠ b + 1 + 1 by omega) (.int .i64 0)
    have c5 := e5.cell
    have f5 := e5.frozen
    have e6 := e5.set (.int .i64 0)
    have e7 := (L1.out.l.set (.int .i64 0)).other (show b + 1 + 1 ≠ b + 1 + 1 + 1 by omega) (.int .i64 0)
    have c6 := e7.cell
    have c7 := e6.cell
    have FF := Aside0.mk (And.intro ((L1.out.fs.turn (grownBy_setCell' X1 (b + 1 + 1) (.int .i64 0)) (fun k e => by cases e; exact L1.out.inc.2.2.1)).turn (grownBy_setCell' _ (b + 1 + 1 + 1) (.int .i64 0)) (fun k e => by cases e; exact L1.out.inc.2.2.2)) (K1.out.trans ((Keep.grown (grownBy_setCell' X1 (b + 1 + 1) (.int .i64 0)) (fun k hk => ⟨Nat.lt_of_lt_of_le (hno k hk).2 K1.out.size, fun e => by have := (hno k hk).1; cases e; omega⟩)).trans (Keep.grown (grownBy_setCell' _ (b + 1 + 1 + 1) (.int .i64 0)) (fun k hk => ⟨by have := Nat.lt_of_lt_of_le (hno k hk).2 K1.out.size; simp; omega, fun e => by have := (hno k hk).1; cases e; omega⟩)))))
    clear e5 e6 e7 L1
    go_wp2_with fail
    refine bodyPost_ret (v := .tuple #[.int .i64 0, .int .i64 0]) (by rw [results_cc rfl]; go_simp) rfl ⟨known, (0, 0), rfl, hkb, FF.out.1.weak (fun k hk => .inl (.inl (.inl (.inl hk)))), FF.out.2, fun _ => rfl, fun h => by omega⟩
end Go.Proofs.Ytaooiffnpnmdeaa.Mt
