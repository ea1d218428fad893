/- Bytes in a row of the call's own, or in the block of a text's bytes (which bears a mark): appended to, and read. -/
import Derived.Test.YtbeibmdccjgcmaaDoorProg
import Derived.Test.YtbeibmdccjgcmaaDoorPb
import Derived.KernelRfl
import Derived.Test.YtbeibmdccjgcmaaDoorWWords
import Derived.Lib.ConvBytes
import Derived.Deep.Upon
import Derived.Laws.AppendOwn
namespace Go.Proofs.YtbeibmdccjgcmaaDoor.Rf5
open Go.RowKit Go.Proofs.YtbeibmdccjgcmaaDoorW.PrintWords Go.Proofs.YtbeibmdccjgcmaaDoorW.PrintLast Go.Proofs.YtbeibmdccjgcmaaDoorW.PrintMore
open Go.Proofs.YtbeibmdccjgcmaaDoor.Pb
set_option linter.unusedVariables false
set_option linter.unusedSimpArgs false
theorem bytesCells_size (w : World) (e : TypeId) (s : ByteArray) : (Lib.bytesCells w e s).size = grownCap w s.size 0 e := by
  have h := grownCap_ge w s.size 0 e
  have h2 : s.data.size = s.size := rfl
  simp [Lib.bytesCells, h2]
  omega
theorem infoU8b : (Tryd.prog.info? 5).map (fun i => (i.zero, i.size, i.bytes)) = some (some (.int .u8 0), 1, 1) := by kernel_rfl
/-- The bytes L, in a block from 'base' on. -/
structure BAt (k : IntKind) (W0 : World) (base : Nat) (w : World) (v : Value) (L : List Int) : Prop where
  ex : ∃ g c, v = .slice (some ⟨g, 0, none⟩) L.length c ∧ base ≤ g ∧ L.length ≤ c ∧ (∀ j, j < L.length → w.cell? ⟨g, j, none⟩ = some (.int k (L.getD j 0))) ∧ (∀ j, j < c → (w.cell? ⟨g, j, none⟩).isSome = true ∧ w.frozen? ⟨g, j, none⟩ = false)
  below : Below base W0 w
theorem BAt.shape {k : IntKind} {W0 : World} {base : Nat} {w : World} {v : Value} {L : List Int} (h : BAt k W0 base w v L) : ∃ a c, v = .slice a L.length c := by
  obtain ⟨g, c, e, _⟩ := h.ex
  exact ⟨_, _, e⟩
theorem BAt.alloc {k : IntKind} {W0 : World} {base : Nat} {w : World} {v : Value} {L : List Int} (h : BAt k W0 base w v L) (hb : base ≤ w.heap.size) (o : Obj) : BAt k W0 base (w.alloc o) v L := by
  obtain ⟨g, c, rfl, hg, hc, h1, h2⟩ := h.ex
  refine ⟨⟨g, c, rfl, hg, hc, fun j hj => ?_, fun j hj => ?_⟩, h.below.alloc hb o⟩
  · have hl := World.block_lt_of_cell? w _ (h1 j hj)
    exact (World.cell?_of_block (a := ⟨g, j, none⟩) (Below.heap_alloc w o g hl)).trans (h1 j hj)
  · obtain ⟨u, hu⟩ := Option.isSome_iff_exists.1 (h2 j hj).1
    have hl := World.block_lt_of_cell? w _ hu
    exact ⟨by rw [World.cell?_of_block (a := ⟨g, j, none⟩) (Below.heap_alloc w o g hl)]; exact (h2 j hj).1, (World.frozen?_of_block (a := ⟨g, j, none⟩) (Below.heap_alloc w o g hl)).trans (h2 j hj).2⟩
theorem bytes_at (w : World) (base : Nat) (hb : base ≤ w.heap.size) (s : ByteArray) (W0 : World) (h0 : Below base W0 w) : BAt .u8 W0 base (Lib.bytesWorld w 5 s) (.slice (some ⟨w.heap.size, 0, none⟩) s.size (grownCap w s.size 0 5)) (bytesOf s) := by
  have hge := grownCap_ge w s.size 0 5
  refine ⟨⟨w.heap.size, _, by rw [bytesOf_length], hb, by rw [bytesOf_length]; exact hge, fun j hj => ?_, fun j hj => ?_⟩, ?_⟩
  · rw [bytesOf_length] at hj
    rw [Lib.bytesWorld_cell w 5 s j hj]
    have h' : j < s.data.toList.length := by rw [data_length]; exact hj
    simp [bytesOf, List.getD_eq_getElem?_getD, List.getElem?_eq_getElem h']
  · have hc := bytesCells_size w 5 s
    have h3 : j < (Lib.bytesCells w 5 s).size := by omega
    refine ⟨?_, ?_⟩
    · simp only [World.cell?, Lib.bytesWorld_at_new]
      simp [h3]
    · simp [World.frozen?, Lib.bytesWorld_at_new]
      omega
  · exact bytes_below h0 hb _ _
theorem tape_setCells (g : Nat) : ∀ (vs : List Value) (o : Nat) (w : World), (w.setCells g o vs).tape = w.tape ∧ (w.setCells g o vs).heap.size = w.heap.size := by
  intro vs
  induction vs with
  | nil => intro o w; exact ⟨rfl, rfl⟩
  | cons v vs ih =>
    intro o w
    have h := ih (o + 1) (w.setCell ⟨g, o, none⟩ v)
    exact ⟨h.1.trans rfl, h.2.trans (by simp [World.setCell])⟩
theorem run_app (t tx ty e : TypeId) (bytes : Nat) {k : IntKind} (ht : Tryd.prog.underlying t = some (.slice e)) (hinfo : (Tryd.prog.info? e).map (fun i => (i.zero, i.size, i.bytes)) = some (some (.int k 0), 1, bytes)) (hby : 0 < bytes) {W0 : World} {base : Nat} {w : World} {v : Value} {L : List Int} (h : BAt k W0 base w v L) (hbw : base ≤ w.heap.size)
    (x : Value) (n : Nat) (ns : List Int) (hs : Src Tryd.prog 1 tx x n (nums k ns) w) (hl : (L.length + n) * bytes ≤ 140737488355328) :
    ∃ v' w', (Builtin.append_ #[t, tx] ty #[v, x]).run Tryd.prog w = .ok v' w' ∧ BAt k W0 base w' v' (L ++ ns) := by
  obtain ⟨g, c, rfl, hg, hc, h1, h2⟩ := h.ex
  obtain ⟨i, hi, hz⟩ := Option.map_eq_some_iff.1 hinfo
  simp only [Prod.mk.injEq] at hz
  obtain ⟨hz0, hz1, hz2⟩ := hz
  have hn : ns.length = n := by have := hs.newsLen; rwa [nums_length, Nat.mul_one] at this
  subst hn
  have h63 : L.length + ns.length ≤ 140737488355328 := Nat.le_trans (Nat.le_mul_of_pos_right _ hby) hl
  have hs' : Src Tryd.prog i.size tx x ns.length (nums k ns) w := by rw [hz1]; exact hs
  by_cases hfit : L.length + ns.length ≤ c
  · have e0 : 0 + L.length * i.size = L.length := by rw [hz1]; omega
    have hsome : ∀ j, j < (nums k ns).length → (w.cell? ⟨g, 0 + L.length * i.size + j, none⟩).isSome = true := fun j hj => by
      rw [e0]; rw [nums_length] at hj; exact (h2 (L.length + j) (by omega)).1
    have hrun := run_append_room_src (P := Tryd.prog) w t tx ty e i ht hi g 0 L.length c x ns.length (nums k ns) hs' hfit hsome (fun j hj => by
      rw [e0]; rw [nums_length] at hj; exact (h2 (L.length + j) (by omega)).2)
    rw [e0] at hrun hsome
    refine ⟨_, _, hrun, ⟨g, c, by rw [List.length_append], hg, by rw [List.length_append]; exact hfit, fun j hj => ?_, fun j hj => ?_⟩, ?_⟩
    · rw [List.length_append] at hj
      by_cases hj2 : j < L.length
      · rw [World.cell?_setCells_out g _ _ _ _ (fun _ _ => Or.inl hj2), h1 j hj2]
        simp [List.getD_eq_getElem?_getD, List.getElem?_append_left hj2]
      · have hk : j - L.length < (nums k ns).length := by rw [nums_length]; omega
        have := World.cell?_setCells_in g (nums k ns) L.length w hsome (j - L.length) hk
        rw [show L.length + (j - L.length) = j by omega] at this
        rw [this]
        have hk2 : j - L.length < ns.length := by omega
        simp [nums, List.getD_eq_getElem?_getD, List.getElem?_append_right (show L.length ≤ j by omega), List.getElem?_eq_getElem hk2]
    · refine ⟨?_, (World.frozen?_setCells g _ _ _ _).trans (h2 j hj).2⟩
      by_cases hin : L.length ≤ j ∧ j < L.length + (nums k ns).length
      · have := World.cell?_setCells_in g (nums k ns) L.length w hsome (j - L.length) (by omega)
        rw [show L.length + (j - L.length) = j by omega] at this
        rw [this]; rfl
      · rw [World.cell?_setCells_out g _ _ _ _ (fun _ _ => by show j < L.length ∨ L.length + (nums k ns).length ≤ j; omega)]
        exact (h2 j hj).1
    · have ht := tape_setCells g (nums k ns) L.length w
      refine h.below.trans ⟨World.os_setCells _ _ _ _, ht.1, World.output_setCells _ _ _ _, Nat.le_of_eq ht.2.symm, fun k hk => World.heap_setCells_other w g _ _ (Nat.lt_of_lt_of_le hk hbw) (by omega)⟩
  · have hold : (Builtin.firstCells i.size L.length (.slice (some ⟨g, 0, none⟩) L.length c)).run Tryd.prog w.drew = .ok (nums k L).toArray w.drew := by
      refine run_firstCells_some w.drew i.size L.length ⟨g, 0, none⟩ L.length c (nums k L) (by rw [nums_length, hz1]; omega) (fun j u hu => ?_)
      rw [Addr.add_lit, Nat.zero_add]
      have hj : j < L.length := by
        have := (List.getElem?_eq_some_iff.1 hu).1
        rwa [nums_length] at this
      rw [← hu]
      show w.cell? _ = _
      rw [h1 j hj]
      simp [nums, List.getD_eq_getElem?_getD, List.getElem?_eq_getElem hj]
    have hrun := run_append_grow_src (P := Tryd.prog) w t tx ty e i (.int k 0) ht hi hz0 (some ⟨g, 0, none⟩) L.length c (nums k L) hold x ns.length (nums k ns) hs' (by omega) (by omega) (growslice_fits (by omega) (by rw [hz2]; exact hl))
    have hge := grownCap_ge w (L.length + ns.length) c e
    have e1 := fun j => World.cell?_alloc_new w.drew (((nums k L) ++ (nums k ns)).toArray ++ Builtin.zeroCells (Value.int k 0).cells (grownCap w (L.length + ns.length) c e - (L.length + ns.length))) e j
    refine ⟨_, _, hrun, ⟨w.heap.size, _, by rw [List.length_append], hbw, by rw [List.length_append]; exact hge, fun j hj => ?_, fun j hj => ⟨?_, ?_⟩⟩, ?_⟩
    · rw [List.length_append] at hj
      refine (e1 j).trans ?_
      rw [Array.getElem?_append_left (by simp [nums]; omega), List.getElem?_toArray, ← nums_append]
      have hj2 : j < (L ++ ns).length := by rw [List.length_append]; exact hj
      rw [nums, List.getElem?_map, List.getElem?_eq_getElem hj2, List.getD_eq_getElem?_getD, List.getElem?_eq_getElem hj2]
      rfl
    · have hsz : (((nums k L) ++ (nums k ns)).toArray ++ Builtin.zeroCells (Value.int k 0).cells (grownCap w (L.length + ns.length) c e - (L.length + ns.length))).size = grownCap w (L.length + ns.length) c e := by
        rw [Array.size_append, List.size_toArray, List.length_append, nums_length, nums_length, size_zeroCells]
        show _ + _ * 1 = _
        omega
      have h9 := e1 j
      rw [Array.getElem?_eq_getElem (by rw [hsz]; exact hj)] at h9
      have h10 : ((w.drew.alloc (.cells (((nums k L) ++ (nums k ns)).toArray ++ Builtin.zeroCells (Value.int k 0).cells (grownCap w (L.length + ns.length) c e - (L.length + ns.length))) e)).cell? ⟨w.heap.size, j, none⟩) = some _ := h9
      rw [h10]; rfl
    · exact World.frozen?_alloc_new w.drew _ _ j
    · exact h.below.trans ((Below.refl _ _).drew.alloc hbw _)
/-- Numbers appended, in a walk. -/
theorem app_row (e : TypeId) (bytes : Nat) {k : IntKind} (hinfo : (Tryd.prog.info? e).map (fun i => (i.zero, i.size, i.bytes)) = some (some (.int k 0), 1, bytes)) (hby : 0 < bytes) (w : World) {ops : Array Oper} {rest : List Oper} {o : Oper} {a : Act} {Q : Exit → Act → World → Prop} (hgd : o.guard = none) (s x : Operand) (t tx : TypeId)
    (ho : o.op = .call { callee := .builtin .append, args := #[s, x], argTypes := #[t, tx] }) (ht : Tryd.prog.underlying t = some (.slice e))
    {W0 : World} {base : Nat} {v : Value} {L : List Int} (hv : a.eval s = v) (h : BAt k W0 base w v L) (hbw : base ≤ w.heap.size)
    (xv : Value) (n : Nat) (ns : List Int) (hx : a.eval x = xv) (hs : Src Tryd.prog 1 tx xv n (nums k ns) w) (hl : (L.length + n) * bytes ≤ 140737488355328)
    (hK : ∀ v' w', BAt k W0 base w' v' (L ++ ns) → wpList Tryd.prog ops Q rest (a.put o.dst v') w') : wpList Tryd.prog ops Q (o :: rest) a w := by
  refine wpList_plain hgd fun K hK' => ?_
  obtain ⟨v', w', hrun, r'⟩ := run_app t tx o.type e bytes ht hinfo hby h hbw xv n ns hs hl
  unfold Oper.wp
  simp [execOp, ho, resolve, invoke, builtin, hv, hx, hrun, Result.andThen]
  exact hK' _ _ (hK v' w' r')
theorem BAt.drew {k : IntKind} {W0 : World} {base : Nat} {w : World} {v : Value} {L : List Int} (h : BAt k W0 base w v L) : BAt k W0 base w.drew v L := by
  obtain ⟨g, c, e, hg, hc, h1, h2⟩ := h.ex
  exact ⟨⟨g, c, e, hg, hc, h1, h2⟩, h.below.drew⟩
theorem BAt.nil (k : IntKind) (W0 : World) (base g c : Nat) (hg : base ≤ g) (w : World) (h : Below base W0 w) (hc : c = 0) : BAt k W0 base w (.slice (some ⟨g, 0, none⟩) 0 c) [] :=
  ⟨⟨g, c, rfl, hg, Nat.zero_le _, fun j hj => absurd hj (Nat.not_lt_zero _), fun j hj => absurd hj (by omega)⟩, h⟩
/-- A literal of numbers, as what is appended. -/
theorem src_lit (k : IntKind) (t e : TypeId) (ht : Tryd.prog.underlying t = some (.slice e)) (ns : List Int) (n : Nat) (hn : ns.length = n) (W : World) (w : World) (hw : w.heap[W.heap.size]? = some (.cells (nums k ns).toArray e (0, 0))) : Src Tryd.prog 1 t (.slice (some ⟨W.heap.size, 0, none⟩) n n) n (nums k ns) w := by
  refine Src.ofSlice _ ht _ n n _ (by rw [nums_length, hn, Nat.mul_one]) (fun j u hj => ?_) (fun u hu => ?_)
  · rw [show (⟨W.heap.size, 0, none⟩ : Addr).add j = ⟨W.heap.size, j, none⟩ from Addr.add_lit .. |>.trans (by rw [Nat.zero_add])]
    simp only [World.cell?, hw]
    simp
    exact hj
  · obtain ⟨x, _, rfl⟩ := List.mem_map.1 hu
    rfl
/-- Numbers that lie in memory, as what is appended. -/
theorem src_cells (k : IntKind) (t e : TypeId) (ht : Tryd.prog.underlying t = some (.slice e)) (g n c : Nat) (ns : List Int) (hn : ns.length = n) (w : World) (hw : ∀ j, j < n → w.cell? ⟨g, j, none⟩ = some (.int k (ns.getD j 0))) : Src Tryd.prog 1 t (.slice (some ⟨g, 0, none⟩) n c) n (nums k ns) w := by
  refine Src.ofSlice _ ht _ n c _ (by rw [nums_length, hn, Nat.mul_one]) (fun j u hj => ?_) (fun u hu => ?_)
  · have hl : j < ns.length := by have := (List.getElem?_eq_some_iff.1 hj).1; rwa [nums_length] at this
    rw [show (⟨g, 0, none⟩ : Addr).add j = ⟨g, j, none⟩ from Addr.add_lit .. |>.trans (by rw [Nat.zero_add]), hw j (by omega), ← hj]
    simp [nums, List.getD_eq_getElem?_getD, List.getElem?_eq_getElem hl]
  · obtain ⟨x, _, rfl⟩ := List.mem_map.1 hu
    rfl
/-- .. or nil. -/
def NAt (k : IntKind) (W0 : World) (base : Nat) (w : World) (v : Value) (L : List Int) : Prop := (v = .slice none 0 0 ∧ L = [] ∧ Below base W0 w) ∨ BAt k W0 base w v L
theorem NAt.below {k : IntKind} {W0 : World} {base : Nat} {w : World} {v : Value} {L : List Int} (h : NAt k W0 base w v L) : Below base W0 w := by
  rcases h with ⟨_, _, h⟩ | h
  · exact h
  · exact h.below
theorem NAt.alloc {k : IntKind} {W0 : World} {base : Nat} {w : World} {v : Value} {L : List Int} (h : NAt k W0 base w v L) (hb : base ≤ w.heap.size) (o : Obj) : NAt k W0 base (w.alloc o) v L := by
  rcases h with ⟨h1, h2, h⟩ | h
  · exact .inl ⟨h1, h2, h.alloc hb o⟩
  · exact .inr (h.alloc hb o)
theorem NAt.drew {k : IntKind} {W0 : World} {base : Nat} {w : World} {v : Value} {L : List Int} (h : NAt k W0 base w v L) : NAt k W0 base w.drew v L := by
  rcases h with ⟨h1, h2, h⟩ | h
  · exact .inl ⟨h1, h2, h.drew⟩
  · exact .inr h.drew
theorem run_appN (t tx ty e : TypeId) (bytes : Nat) {k : IntKind} (ht : Tryd.prog.underlying t = some (.slice e)) (hinfo : (Tryd.prog.info? e).map (fun i => (i.zero, i.size, i.bytes)) = some (some (.int k 0), 1, bytes)) (hby : 0 < bytes) {W0 : World} {base : Nat} {w : World} {v : Value} {L : List Int} (h : NAt k W0 base w v L) (hbw : base ≤ w.heap.size)
    (x : Value) (n : Nat) (ns : List Int) (hs : Src Tryd.prog 1 tx x n (nums k ns) w) (hn0 : 0 < n) (hl : (L.length + n) * bytes ≤ 140737488355328) :
    ∃ v' w', (Builtin.append_ #[t, tx] ty #[v, x]).run Tryd.prog w = .ok v' w' ∧ BAt k W0 base w' v' (L ++ ns) := by
  rcases h with ⟨rfl, rfl, hB⟩ | h
  · obtain ⟨i, hi, hz⟩ := Option.map_eq_some_iff.1 hinfo
    simp only [Prod.mk.injEq] at hz
    obtain ⟨hz0, hz1, hz2⟩ := hz
    have hn : ns.length = n := by have := hs.newsLen; rwa [nums_length, Nat.mul_one] at this
    subst hn
    rw [List.length_nil] at hl
    have h63 : 0 + ns.length ≤ 140737488355328 := Nat.le_trans (Nat.le_mul_of_pos_right _ hby) hl
    have hs' : Src Tryd.prog i.size tx x ns.length (nums k ns) w := by rw [hz1]; exact hs
    have hrun := run_append_grow_src (P := Tryd.prog) w t tx ty e i (.int k 0) ht hi hz0 none 0 0 [] (run_firstCells_none w.drew i.size 0 0 0) x ns.length (nums k ns) hs' (by omega) (by omega) (growslice_fits (by omega) (by rw [hz2]; exact hl))
    simp only [Nat.zero_add, List.nil_append] at hrun
    have hge := grownCap_ge w ns.length 0 e
    have e1 := fun j => World.cell?_alloc_new w.drew ((nums k ns).toArray ++ Builtin.zeroCells (Value.int k 0).cells (grownCap w ns.length 0 e - ns.length)) e j
    rw [List.nil_append]
    refine ⟨_, _, hrun, ⟨w.heap.size, _, rfl, hbw, hge, fun j hj => ?_, fun j hj => ⟨?_, ?_⟩⟩, ?_⟩
    · refine (e1 j).trans ?_
      rw [Array.getElem?_append_left (by simp [nums]; omega), List.getElem?_toArray, nums, List.getElem?_map, List.getElem?_eq_getElem hj, List.getD_eq_getElem?_getD, List.getElem?_eq_getElem hj]
      rfl
    · have hsz : ((nums k ns).toArray ++ Builtin.zeroCells (Value.int k 0).cells (grownCap w ns.length 0 e - ns.length)).size = grownCap w ns.length 0 e := by
        rw [Array.size_append, List.size_toArray, nums_length, size_zeroCells]
        show _ + _ * 1 = _
        omega
      have h9 := e1 j
      rw [Array.getElem?_eq_getElem (by rw [hsz]; exact hj)] at h9
      have h10 : ((w.drew.alloc (.cells ((nums k ns).toArray ++ Builtin.zeroCells (Value.int k 0).cells (grownCap w ns.length 0 e - ns.length)) e)).cell? ⟨w.heap.size, j, none⟩) = some _ := h9
      rw [h10]; rfl
    · exact World.frozen?_alloc_new w.drew _ _ j
    · exact hB.trans ((Below.refl _ _).drew.alloc hbw _)
  · exact run_app t tx ty e bytes ht hinfo hby h hbw x n ns hs hl
theorem app_stepN (e : TypeId) (bytes : Nat) {k : IntKind} (hinfo : (Tryd.prog.info? e).map (fun i => (i.zero, i.size, i.bytes)) = some (some (.int k 0), 1, bytes)) (hby : 0 < bytes) {w : World} {ops : Array Oper} {o : Oper} {a : Act} {K : Act → World → Prop} {Q : Exit → Act → World → Prop} {E : Prop} (hw : Region.wanted o (yielded ops a.tmps) = true) (s x : Operand) (t tx : TypeId)
    (ho : o.op = .call { callee := .builtin .append, args := #[s, x], argTypes := #[t, tx] }) (ht : Tryd.prog.underlying t = some (.slice e))
    {W0 : World} {base : Nat} {v : Value} {L : List Int} (hv : a.eval s = v) (h : NAt k W0 base w v L) (hbw : base ≤ w.heap.size)
    (xv : Value) (n : Nat) (ns : List Int) (hx : a.eval x = xv) (hs : Src Tryd.prog 1 tx xv n (nums k ns) w) (hn0 : 0 < n) (hl : (L.length + n) * bytes ≤ 140737488355328)
    (hK : ∀ v' w', BAt k W0 base w' v' (L ++ ns) → K (a.put o.dst v') w') : if Region.wanted o (yielded ops a.tmps) = true then Oper.wp Tryd.prog o a w K Q else E := by
  rw [if_pos hw]
  obtain ⟨v', w', hrun, r'⟩ := run_appN t tx o.type e bytes ht hinfo hby h hbw xv n ns hs hn0 hl
  unfold Oper.wp
  simp [execOp, ho, resolve, invoke, builtin, hv, hx, hrun, Result.andThen]
  exact hK v' w' r'
theorem byteCells_nums (s : ByteArray) : byteCells s = nums .u8 (bytesOf s) := by simp [byteCells, nums, bytesOf]
end Go.Proofs.YtbeibmdccjgcmaaDoor.Rf5
