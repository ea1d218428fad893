/- The document's blake (hamperref05): its first numbers, its places, its sums and turns of numbers, its digest. -/
import Derived.Test.YteplphpbpaojjaaDoorProg
import Derived.Test.YteplphpbpaojjaaDoorPb
import Derived.KernelRfl
import Derived.Test.YteplphpbpaojjaaDoorWWords
import Derived.Lib.ConvBytes
import Derived.Deep.Upon
import Derived.Laws.AppendOwn
import Derived.Test.YteplphpbpaojjaaDoorBk12
import Derived.Laws.BitsLemmas
import Derived.Test.YteplphpbpaojjaaDoorPRefx53
import Derived.Test.YteplphpbpaojjaaDoorPRefx42
import Derived.Below
import Derived.Deep.Draws
import Derived.Deep.AppendLies
import Derived.Maps.AppendAt
import Derived.OwnWalk
import Derived.Laws.BytesArg
import Derived.Laws.MakeOwn
import Derived.Laws.OwnMore
import Derived.Deep.OwnRows
import Derived.Tactics
import Derived.Laws.Slices
import Derived.WalkKit
import Derived.RowKit3
import Derived.Deep.LoopGhost
import Derived.Deep.QuietTactic
import Derived.BigQuiet
import Derived.WideLaws
import Derived.Deep.DeepCutAuto
import Derived.Deep.CutBlock
import Derived.Deep.RegionHeld3
import Derived.Test.YteplphpbpaojjaaDoorWInvWords
import Derived.Laws.Rows
import Derived.Lib.AppendStr
import Derived.ArgAppend
import Derived.Laws.IdiomCopy
import Derived.OrdersHeld
import Derived.RowKit
import Derived.Test.YteplphpbpaojjaaDoorWLast
import Derived.Test.YteplphpbpaojjaaDoorWMore
import Derived.OpenShut
import Derived.Test.YteplphpbpaojjaaDoorHandMix
import Derived.Test.YteplphpbpaojjaaDoorWTab
namespace Go.Proofs.YteplphpbpaojjaaDoor.Rf5
def lbKTab (n m : Nat) : Array Bool := ((List.range n).map m.testBit).toArray
open Go.RowKit Go.Proofs.YteplphpbpaojjaaDoorW.PrintWords Go.Proofs.YteplphpbpaojjaaDoorW.PrintLast Go.Proofs.YteplphpbpaojjaaDoorW.PrintMore
open Go.Proofs.YteplphpbpaojjaaDoor.Pb
set_option linter.unusedVariables false
set_option linter.unusedSimpArgs false
theorem bytesCells_size (w : World) (e : TypeId) (s : ByteArray) : (Lib.bytesCells w e s).size = grownCap w s.size 0 e := by
  have h := grownCap_ge w s.size 0 e
  have h2 : s.data.size = s.size := rfl
  simp [Lib.bytesCells, h2]
  omega
theorem infoU8b : (Tryd.prog.info? 5).map (fun i => (i.zero, i.size, i.bytes)) = some (some (.int .u8 0), 1, 1) := by kernel_rfl
structure BAt (k : IntKind) (W0 : World) (base : Nat) (w : World) (v : Value) (L : List Int) : Prop where
  ex : ∃ g c, v = .slice (some ⟨g, 0, none⟩) L.length c ∧ base ≤ g ∧ L.length ≤ c ∧ (∀ j, j < L.length → w.cell? ⟨g, j, none⟩ = some (.int k (L.getD j 0))) ∧ (∀ j, j < c → (w.cell? ⟨g, j, none⟩).isSome = true ∧ w.frozen? ⟨g, j, none⟩ = false)
  below : Below base W0 w
theorem BAt.shape {k : IntKind} {W0 : World} {base : Nat} {w : World} {v : Value} {L : List Int} (h : BAt k W0 base w v L) : ∃ a c, v = .slice a L.length c := by
  obtain ⟨g, c, e, _⟩ := h.ex
  exact ⟨_, _, e⟩
theorem BAt.alloc {k : IntKind} {W0 : World} {base : Nat} {w : World} {v : Value} {L : List Int} (h : BAt k W0 base w v L) (hb : base ≤ w.heap.size) (o : Obj) : BAt k W0 base (w.alloc o) v L := by
  obtain ⟨g, c, rfl, hg, hc, h1, h2⟩ := h.ex
  refine ⟨⟨g, c, rfl, hg, hc, fun j hj => ?_, fun j hj => ?_⟩, h.below.alloc hb o⟩
  · have hl := World.block_lt_of_cell? w _ (h1 j hj)
    exact (World.cell?_of_block (a := ⟨g, j, none⟩) (Below.heap_alloc w o g hl)).trans (h1 j hj)
  · obtain ⟨u, hu⟩ := Option.isSome_iff_exists.1 (h2 j hj).1
    have hl := World.block_lt_of_cell? w _ hu
    exact ⟨by rw [World.cell?_of_block (a := ⟨g, j, none⟩) (Below.heap_alloc w o g hl)]; exact (h2 j hj).1, (World.frozen?_of_block (a := ⟨g, j, none⟩) (Below.heap_alloc w o g hl)).trans (h2 j hj).2⟩
theorem bytes_at (w : World) (base : Nat) (hb : base ≤ w.heap.size) (s : ByteArray) (W0 : World) (h0 : Below base W0 w) : BAt .u8 W0 base (Lib.bytesWorld w 5 s) (.slice (some ⟨w.heap.size, 0, none⟩) s.size (grownCap w s.size 0 5)) (bytesOf s) := by
  have hge := grownCap_ge w s.size 0 5
  refine ⟨⟨w.heap.size, _, by rw [bytesOf_length], hb, by rw [bytesOf_length]; exact hge, fun j hj => ?_, fun j hj => ?_⟩, ?_⟩
  · rw [bytesOf_length] at hj
    rw [Lib.bytesWorld_cell w 5 s j hj]
    have h' : j < s.data.toList.length := by rw [data_length]; exact hj
    simp [bytesOf, List.getD_eq_getElem?_getD, List.getElem?_eq_getElem h']
  · have hc := bytesCells_size w 5 s
    have h3 : j < (Lib.bytesCells w 5 s).size := by omega
    refine ⟨?_, ?_⟩
    · simp only [World.cell?, Lib.bytesWorld_at_new]
      simp [h3]
    · simp [World.frozen?, Lib.bytesWorld_at_new]
      omega
  · exact bytes_below h0 hb _ _
theorem tape_setCells (g : Nat) : ∀ (vs : List Value) (o : Nat) (w : World), (w.setCells g o vs).tape = w.tape ∧ (w.setCells g o vs).heap.size = w.heap.size := by
  intro vs
  induction vs with
  | nil => intro o w; exact ⟨rfl, rfl⟩
  | cons v vs ih =>
    intro o w
    have h := ih (o + 1) (w.setCell ⟨g, o, none⟩ v)
    exact ⟨h.1.trans rfl, h.2.trans (by simp [World.setCell])⟩
theorem run_app (t tx ty e : TypeId) (bytes : Nat) {k : IntKind} (ht : Tryd.prog.underlying t = some (.slice e)) (hinfo : (Tryd.prog.info? e).map (fun i => (i.zero, i.size, i.bytes)) = some (some (.int k 0), 1, bytes)) (hby : 0 < bytes) {W0 : World} {base : Nat} {w : World} {v : Value} {L : List Int} (h : BAt k W0 base w v L) (hbw : base ≤ w.heap.size)
    (x : Value) (n : Nat) (ns : List Int) (hs : Src Tryd.prog 1 tx x n (nums k ns) w) (hl : (L.length + n) * bytes ≤ 140737488355328) :
    ∃ v' w', (Builtin.append_ #[t, tx] ty #[v, x]).run Tryd.prog w = .ok v' w' ∧ BAt k W0 base w' v' (L ++ ns) := by
  obtain ⟨g, c, rfl, hg, hc, h1, h2⟩ := h.ex
  obtain ⟨i, hi, hz⟩ := Option.map_eq_some_iff.1 hinfo
  simp only [Prod.mk.injEq] at hz
  obtain ⟨hz0, hz1, hz2⟩ := hz
  have hn : ns.length = n := by have := hs.newsLen; rwa [nums_length, Nat.mul_one] at this
  subst hn
  have h63 : L.length + ns.length ≤ 140737488355328 := Nat.le_trans (Nat.le_mul_of_pos_right _ hby) hl
  have hs' : Src Tryd.prog i.size tx x ns.length (nums k ns) w := by rw [hz1]; exact hs
  by_cases hfit : L.length + ns.length ≤ c
  · have e0 : 0 + L.length * i.size = L.length := by rw [hz1]; omega
    have hsome : ∀ j, j < (nums k ns).length → (w.cell? ⟨g, 0 + L.length * i.size + j, none⟩).isSome = true := fun j hj => by
      rw [e0]; rw [nums_length] at hj; exact (h2 (L.length + j) (by omega)).1
    have hrun := run_append_room_src (P := Tryd.prog) w t tx ty e i ht hi g 0 L.length c x ns.length (nums k ns) hs' hfit hsome (fun j hj => by
      rw [e0]; rw [nums_length] at hj; exact (h2 (L.length + j) (by omega)).2)
    rw [e0] at hrun hsome
    refine ⟨_, _, hrun, ⟨g, c, by rw [List.length_append], hg, by rw [List.length_append]; exact hfit, fun j hj => ?_, fun j hj => ?_⟩, ?_⟩
    · rw [List.length_append] at hj
      by_cases hj2 : j < L.length
      · rw [World.cell?_setCells_out g _ _ _ _ (fun _ _ => Or.inl hj2), h1 j hj2]
        simp [List.getD_eq_getElem?_getD, List.getElem?_append_left hj2]
      · have hk : j - L.length < (nums k ns).length := by rw [nums_length]; omega
        have := World.cell?_setCells_in g (nums k ns) L.length w hsome (j - L.length) hk
        rw [show L.length + (j - L.length) = j by omega] at this
        rw [this]
        have hk2 : j - L.length < ns.length := by omega
        simp [nums, List.getD_eq_getElem?_getD, List.getElem?_append_right (show L.length ≤ j by omega), List.getElem?_eq_getElem hk2]
    · refine ⟨?_, (World.frozen?_setCells g _ _ _ _).trans (h2 j hj).2⟩
      by_cases hin : L.length ≤ j ∧ j < L.length + (nums k ns).length
      · have := World.cell?_setCells_in g (nums k ns) L.length w hsome (j - L.length) (by omega)
        rw [show L.length + (j - L.length) = j by omega] at this
        rw [this]; rfl
      · rw [World.cell?_setCells_out g _ _ _ _ (fun _ _ => by show j < L.length ∨ L.length + (nums k ns).length ≤ j; omega)]
        exact (h2 j hj).1
    · have ht := tape_setCells g (nums k ns) L.length w
      refine h.below.trans ⟨World.os_setCells _ _ _ _, ht.1, World.output_setCells _ _ _ _, Nat.le_of_eq ht.2.symm, fun k hk => World.heap_setCells_other w g _ _ (Nat.lt_of_lt_of_le hk hbw) (by omega)⟩
  · have hold : (Builtin.firstCells i.size L.length (.slice (some ⟨g, 0, none⟩) L.length c)).run Tryd.prog w.drew = .ok (nums k L).toArray w.drew := by
      refine run_firstCells_some w.drew i.size L.length ⟨g, 0, none⟩ L.length c (nums k L) (by rw [nums_length, hz1]; omega) (fun j u hu => ?_)
      rw [Addr.add_lit, Nat.zero_add]
      have hj : j < L.length := by
        have := (List.getElem?_eq_some_iff.1 hu).1
        rwa [nums_length] at this
      rw [← hu]
      show w.cell? _ = _
      rw [h1 j hj]
      simp [nums, List.getD_eq_getElem?_getD, List.getElem?_eq_getElem hj]
    have hrun := run_append_grow_src (P := Tryd.prog) w t tx ty e i (.int k 0) ht hi hz0 (some ⟨g, 0, none⟩) L.length c (nums k L) hold x ns.length (nums k ns) hs' (by omega) (by omega) (growslice_fits (by omega) (by rw [hz2]; exact hl))
    have hge := grownCap_ge w (L.length + ns.length) c e
    have e1 := fun j => World.cell?_alloc_new w.drew (((nums k L) ++ (nums k ns)).toArray ++ Builtin.zeroCells (Value.int k 0).cells (grownCap w (L.length + ns.length) c e - (L.length + ns.length))) e j
    refine ⟨_, _, hrun, ⟨w.heap.size, _, by rw [List.length_append], hbw, by rw [List.length_append]; exact hge, fun j hj => ?_, fun j hj => ⟨?_, ?_⟩⟩, ?_⟩
    · rw [List.length_append] at hj
      refine (e1 j).trans ?_
      rw [Array.getElem?_append_left (by simp [nums]; omega), List.getElem?_toArray, ← nums_append]
      have hj2 : j < (L ++ ns).length := by rw [List.length_append]; exact hj
      rw [nums, List.getElem?_map, List.getElem?_eq_getElem hj2, List.getD_eq_getElem?_getD, List.getElem?_eq_getElem hj2]
      rfl
    · have hsz : (((nums k L) ++ (nums k ns)).toArray ++ Builtin.zeroCells (Value.int k 0).cells (grownCap w (L.length + ns.length) c e - (L.length + ns.length))).size = grownCap w (L.length + ns.length) c e := by
        rw [Array.size_append, List.size_toArray, List.length_append, nums_length, nums_length, size_zeroCells]
        show _ + _ * 1 = _
        omega
      have h9 := e1 j
      rw [Array.getElem?_eq_getElem (by rw [hsz]; exact hj)] at h9
      have h10 : ((w.drew.alloc (.cells (((nums k L) ++ (nums k ns)).toArray ++ Builtin.zeroCells (Value.int k 0).cells (grownCap w (L.length + ns.length) c e - (L.length + ns.length))) e)).cell? ⟨w.heap.size, j, none⟩) = some _ := h9
      rw [h10]; rfl
    · exact World.frozen?_alloc_new w.drew _ _ j
    · exact h.below.trans ((Below.refl _ _).drew.alloc hbw _)
theorem app_row (e : TypeId) (bytes : Nat) {k : IntKind} (hinfo : (Tryd.prog.info? e).map (fun i => (i.zero, i.size, i.bytes)) = some (some (.int k 0), 1, bytes)) (hby : 0 < bytes) (w : World) {ops : Array Oper} {rest : List Oper} {o : Oper} {a : Act} {Q : Exit → Act → World → Prop} (hgd : o.guard = none) (s x : Operand) (t tx : TypeId)
    (ho : o.op = .call { callee := .builtin .append, args := #[s, x], argTypes := #[t, tx] }) (ht : Tryd.prog.underlying t = some (.slice e))
    {W0 : World} {base : Nat} {v : Value} {L : List Int} (hv : a.eval s = v) (h : BAt k W0 base w v L) (hbw : base ≤ w.heap.size)
    (xv : Value) (n : Nat) (ns : List Int) (hx : a.eval x = xv) (hs : Src Tryd.prog 1 tx xv n (nums k ns) w) (hl : (L.length + n) * bytes ≤ 140737488355328)
    (hK : ∀ v' w', BAt k W0 base w' v' (L ++ ns) → wpList Tryd.prog ops Q rest (a.put o.dst v') w') : wpList Tryd.prog ops Q (o :: rest) a w := by
  refine wpList_plain hgd fun K hK' => ?_
  obtain ⟨v', w', hrun, r'⟩ := run_app t tx o.type e bytes ht hinfo hby h hbw xv n ns hs hl
  unfold Oper.wp
  simp [execOp, ho, resolve, invoke, builtin, hv, hx, hrun, Result.andThen]
  exact hK' _ _ (hK v' w' r')
theorem BAt.drew {k : IntKind} {W0 : World} {base : Nat} {w : World} {v : Value} {L : List Int} (h : BAt k W0 base w v L) : BAt k W0 base w.drew v L := by
  obtain ⟨g, c, e, hg, hc, h1, h2⟩ := h.ex
  exact ⟨⟨g, c, e, hg, hc, h1, h2⟩, h.below.drew⟩
theorem BAt.nil (k : IntKind) (W0 : World) (base g c : Nat) (hg : base ≤ g) (w : World) (h : Below base W0 w) (hc : c = 0) : BAt k W0 base w (.slice (some ⟨g, 0, none⟩) 0 c) [] :=
  ⟨⟨g, c, rfl, hg, Nat.zero_le _, fun j hj => absurd hj (Nat.not_lt_zero _), fun j hj => absurd hj (by omega)⟩, h⟩
theorem src_lit (k : IntKind) (t e : TypeId) (ht : Tryd.prog.underlying t = some (.slice e)) (ns : List Int) (n : Nat) (hn : ns.length = n) (W : World) (w : World) (hw : w.heap[W.heap.size]? = some (.cells (nums k ns).toArray e (0, 0))) : Src Tryd.prog 1 t (.slice (some ⟨W.heap.size, 0, none⟩) n n) n (nums k ns) w := by
  refine Src.ofSlice _ ht _ n n _ (by rw [nums_length, hn, Nat.mul_one]) (fun j u hj => ?_) (fun u hu => ?_)
  · rw [show (⟨W.heap.size, 0, none⟩ : Addr).add j = ⟨W.heap.size, j, none⟩ from Addr.add_lit .. |>.trans (by rw [Nat.zero_add])]
    simp only [World.cell?, hw]
    simp
    exact hj
  · obtain ⟨x, _, rfl⟩ := List.mem_map.1 hu
    rfl
theorem src_cells (k : IntKind) (t e : TypeId) (ht : Tryd.prog.underlying t = some (.slice e)) (g n c : Nat) (ns : List Int) (hn : ns.length = n) (w : World) (hw : ∀ j, j < n → w.cell? ⟨g, j, none⟩ = some (.int k (ns.getD j 0))) : Src Tryd.prog 1 t (.slice (some ⟨g, 0, none⟩) n c) n (nums k ns) w := by
  refine Src.ofSlice _ ht _ n c _ (by rw [nums_length, hn, Nat.mul_one]) (fun j u hj => ?_) (fun u hu => ?_)
  · have hl : j < ns.length := by have := (List.getElem?_eq_some_iff.1 hj).1; rwa [nums_length] at this
    rw [show (⟨g, 0, none⟩ : Addr).add j = ⟨g, j, none⟩ from Addr.add_lit .. |>.trans (by rw [Nat.zero_add]), hw j (by omega), ← hj]
    simp [nums, List.getD_eq_getElem?_getD, List.getElem?_eq_getElem hl]
  · obtain ⟨x, _, rfl⟩ := List.mem_map.1 hu
    rfl
def NAt (k : IntKind) (W0 : World) (base : Nat) (w : World) (v : Value) (L : List Int) : Prop := (v = .slice none 0 0 ∧ L = [] ∧ Below base W0 w) ∨ BAt k W0 base w v L
theorem NAt.below {k : IntKind} {W0 : World} {base : Nat} {w : World} {v : Value} {L : List Int} (h : NAt k W0 base w v L) : Below base W0 w := by
  rcases h with ⟨_, _, h⟩ | h
  · exact h
  · exact h.below
theorem NAt.alloc {k : IntKind} {W0 : World} {base : Nat} {w : World} {v : Value} {L : List Int} (h : NAt k W0 base w v L) (hb : base ≤ w.heap.size) (o : Obj) : NAt k W0 base (w.alloc o) v L := by
  rcases h with ⟨h1, h2, h⟩ | h
  · exact .inl ⟨h1, h2, h.alloc hb o⟩
  · exact .inr (h.alloc hb o)
theorem NAt.drew {k : IntKind} {W0 : World} {base : Nat} {w : World} {v : Value} {L : List Int} (h : NAt k W0 base w v L) : NAt k W0 base w.drew v L := by
  rcases h with ⟨h1, h2, h⟩ | h
  · exact .inl ⟨h1, h2, h.drew⟩
  · exact .inr h.drew
theorem run_appN (t tx ty e : TypeId) (bytes : Nat) {k : IntKind} (ht : Tryd.prog.underlying t = some (.slice e)) (hinfo : (Tryd.prog.info? e).map (fun i => (i.zero, i.size, i.bytes)) = some (some (.int k 0), 1, bytes)) (hby : 0 < bytes) {W0 : World} {base : Nat} {w : World} {v : Value} {L : List Int} (h : NAt k W0 base w v L) (hbw : base ≤ w.heap.size)
    (x : Value) (n : Nat) (ns : List Int) (hs : Src Tryd.prog 1 tx x n (nums k ns) w) (hn0 : 0 < n) (hl : (L.length + n) * bytes ≤ 140737488355328) :
    ∃ v' w', (Builtin.append_ #[t, tx] ty #[v, x]).run Tryd.prog w = .ok v' w' ∧ BAt k W0 base w' v' (L ++ ns) := by
  rcases h with ⟨rfl, rfl, hB⟩ | h
  · obtain ⟨i, hi, hz⟩ := Option.map_eq_some_iff.1 hinfo
    simp only [Prod.mk.injEq] at hz
    obtain ⟨hz0, hz1, hz2⟩ := hz
    have hn : ns.length = n := by have := hs.newsLen; rwa [nums_length, Nat.mul_one] at this
    subst hn
    rw [List.length_nil] at hl
    have h63 : 0 + ns.length ≤ 140737488355328 := Nat.le_trans (Nat.le_mul_of_pos_right _ hby) hl
    have hs' : Src Tryd.prog i.size tx x ns.length (nums k ns) w := by rw [hz1]; exact hs
    have hrun := run_append_grow_src (P := Tryd.prog) w t tx ty e i (.int k 0) ht hi hz0 none 0 0 [] (run_firstCells_none w.drew i.size 0 0 0) x ns.length (nums k ns) hs' (by omega) (by omega) (growslice_fits (by omega) (by rw [hz2]; exact hl))
    simp only [Nat.zero_add, List.nil_append] at hrun
    have hge := grownCap_ge w ns.length 0 e
    have e1 := fun j => World.cell?_alloc_new w.drew ((nums k ns).toArray ++ Builtin.zeroCells (Value.int k 0).cells (grownCap w ns.length 0 e - ns.length)) e j
    rw [List.nil_append]
    refine ⟨_, _, hrun, ⟨w.heap.size, _, rfl, hbw, hge, fun j hj => ?_, fun j hj => ⟨?_, ?_⟩⟩, ?_⟩
    · refine (e1 j).trans ?_
      rw [Array.getElem?_append_left (by simp [nums]; omega), List.getElem?_toArray, nums, List.getElem?_map, List.getElem?_eq_getElem hj, List.getD_eq_getElem?_getD, List.getElem?_eq_getElem hj]
      rfl
    · have hsz : ((nums k ns).toArray ++ Builtin.zeroCells (Value.int k 0).cells (grownCap w ns.length 0 e - ns.length)).size = grownCap w ns.length 0 e := by
        rw [Array.size_append, List.size_toArray, nums_length, size_zeroCells]
        show _ + _ * 1 = _
        omega
      have h9 := e1 j
      rw [Array.getElem?_eq_getElem (by rw [hsz]; exact hj)] at h9
      have h10 : ((w.drew.alloc (.cells ((nums k ns).toArray ++ Builtin.zeroCells (Value.int k 0).cells (grownCap w ns.length 0 e - ns.length)) e)).cell? ⟨w.heap.size, j, none⟩) = some _ := h9
      rw [h10]; rfl
    · exact World.frozen?_alloc_new w.drew _ _ j
    · exact hB.trans ((Below.refl _ _).drew.alloc hbw _)
  · exact run_app t tx ty e bytes ht hinfo hby h hbw x n ns hs hl
theorem app_stepN (e : TypeId) (bytes : Nat) {k : IntKind} (hinfo : (Tryd.prog.info? e).map (fun i => (i.zero, i.size, i.bytes)) = some (some (.int k 0), 1, bytes)) (hby : 0 < bytes) {w : World} {ops : Array Oper} {o : Oper} {a : Act} {K : Act → World → Prop} {Q : Exit → Act → World → Prop} {E : Prop} (hw : Region.wanted o (yielded ops a.tmps) = true) (s x : Operand) (t tx : TypeId)
    (ho : o.op = .call { callee := .builtin .append, args := #[s, x], argTypes := #[t, tx] }) (ht : Tryd.prog.underlying t = some (.slice e))
    {W0 : World} {base : Nat} {v : Value} {L : List Int} (hv : a.eval s = v) (h : NAt k W0 base w v L) (hbw : base ≤ w.heap.size)
    (xv : Value) (n : Nat) (ns : List Int) (hx : a.eval x = xv) (hs : Src Tryd.prog 1 tx xv n (nums k ns) w) (hn0 : 0 < n) (hl : (L.length + n) * bytes ≤ 140737488355328)
    (hK : ∀ v' w', BAt k W0 base w' v' (L ++ ns) → K (a.put o.dst v') w') : if Region.wanted o (yielded ops a.tmps) = true then Oper.wp Tryd.prog o a w K Q else E := by
  rw [if_pos hw]
  obtain ⟨v', w', hrun, r'⟩ := run_appN t tx o.type e bytes ht hinfo hby h hbw xv n ns hs hn0 hl
  unfold Oper.wp
  simp [execOp, ho, resolve, invoke, builtin, hv, hx, hrun, Result.andThen]
  exact hK v' w' r'
theorem byteCells_nums (s : ByteArray) : byteCells s = nums .u8 (bytesOf s) := by simp [byteCells, nums, bytesOf]
end Go.Proofs.YteplphpbpaojjaaDoor.Rf5
namespace Go.Proofs.YteplphpbpaojjaaDoor.Rf5
open Go.RowKit Go.Proofs.YteplphpbpaojjaaDoorW.PrintWords Go.Proofs.YteplphpbpaojjaaDoorW.PrintLast Go.Proofs.YteplphpbpaojjaaDoorW.PrintMore Go.Proofs.YteplphpbpaojjaaDoor.PRef
open Go.Proofs.YteplphpbpaojjaaDoor.Bk Go.Proofs.YteplphpbpaojjaaDoor.Pb
set_option linter.unusedVariables false
set_option linter.unusedSimpArgs false
def placesB : List ByteArray := (hamperref05_places.f).getD []
theorem places_f : hamperref05_places.f = some placesB := by rfl
theorem places_len : placesB.length = 10 := by decide +kernel
theorem first_f : hamperref05_First.f 400 = some firstsL := by decide +kernel
theorem place_all : ∀ r : Fin 10, ∀ j : Fin 16, (placesB.getD r.val ⟨#[]⟩).size = 16 ∧ hamperref05_place.f (bt (placesB.getD r.val ⟨#[]⟩) j.val) = some ((rowsL.getD r.val []).getD j.val 0) ∧ 0 ≤ (rowsL.getD r.val []).getD j.val 0 ∧ (rowsL.getD r.val []).getD j.val 0 < 16 := by decide +kernel
end Go.Proofs.YteplphpbpaojjaaDoor.Rf5
namespace Go.Proofs.YteplphpbpaojjaaDoor.Rf5
open Go.RowKit Go.Proofs.YteplphpbpaojjaaDoorW.PrintWords Go.Proofs.YteplphpbpaojjaaDoorW.PrintLast Go.Proofs.YteplphpbpaojjaaDoorW.PrintMore
open Go.Proofs.YteplphpbpaojjaaDoor.Bk Go.Proofs.YteplphpbpaojjaaDoor.Pb
set_option linter.unusedVariables false
set_option linter.unusedSimpArgs false
theorem wrap32 (n : Int) : IntKind.u32.wrap n = n % 4294967296 := rfl
theorem wrap32_id (n : Int) (h0 : 0 ≤ n) (h1 : n < 2 ^ 32) : IntKind.u32.wrap n = n := by rw [wrap32]; omega
theorem xor_bv (a b : Int) : Go.bits .xor .u32 a b = (((BitVec.ofInt 32 a ^^^ BitVec.ofInt 32 b).toNat : Nat) : Int) := by
  have h : Go.bits .xor .u32 a b = IntKind.u32.wrap (((BitVec.ofInt 32 a ^^^ BitVec.ofInt 32 b).toNat : Nat) : Int) := rfl
  rw [h]
  refine wrap32_id _ (Int.natCast_nonneg _) ?_
  have := (BitVec.ofInt 32 a ^^^ BitVec.ofInt 32 b).isLt
  exact_mod_cast this
theorem bv_nat (v : BitVec 32) : BitVec.ofInt 32 ((v.toNat : Nat) : Int) = v := by simp
theorem xor_assoc (a b c : Int) : Go.bits .xor .u32 (Go.bits .xor .u32 a b) c = Go.bits .xor .u32 a (Go.bits .xor .u32 b c) := by
  rw [xor_bv a b, xor_bv b c, xor_bv, xor_bv, bv_nat, bv_nat, BitVec.xor_assoc]
theorem join32 (i : Nat) (x y : Int) (hx₀ : 0 ≤ x) (hx : x % 2 ^ i = 0) (hx₁ : x < 2 ^ 32) (hy₀ : 0 ≤ y) (hy : y < 2 ^ i) (hy₁ : y < 2 ^ 32) : Go.bits .or .u32 y x = y + x := by
  have h := bits_join .u32 32 (Nat.le_refl _) wrap32_id i x y hx₀ hx hx₁ hy₀ hy hy₁
  have hc : Go.bits .or .u32 y x = Go.bits .or .u32 x y := by simp only [Go.bits, BitVec.or_comm]
  rw [hc, h, Int.add_comm]
theorem word_eq (a b c d : Int) (ha : 0 ≤ a ∧ a < 256) (hb : 0 ≤ b ∧ b < 256) (hc : 0 ≤ c ∧ c < 256) (hd : 0 ≤ d ∧ d < 256) :
    Go.bits .or .u32 (Go.bits .or .u32 (Go.bits .or .u32 a (b * 256)) (c * 65536)) (d * 16777216) = (a + b * 256 + c * 65536 + d * 16777216) % 4294967296 := by
  rw [join32 8 (b * 256) a (by omega) (by omega) (by omega) (by omega) (by omega) (by omega)]
  rw [join32 16 (c * 65536) (a + b * 256) (by omega) (by omega) (by omega) (by omega) (by omega) (by omega)]
  rw [join32 24 (d * 16777216) (a + b * 256 + c * 65536) (by omega) (by omega) (by omega) (by omega) (by omega) (by omega)]
  omega
theorem fin_eq (h v u : Int) : Go.bits .xor .u32 (Go.bits .xor .u32 h v) u = Go.bits .xor .u32 h (Go.bits .xor .u32 v u) := xor_assoc h v u
end Go.Proofs.YteplphpbpaojjaaDoor.Rf5
namespace Go.Proofs.YteplphpbpaojjaaDoor.Rf5
open Go.RowKit Go.Proofs.YteplphpbpaojjaaDoorW.PrintWords Go.Proofs.YteplphpbpaojjaaDoorW.PrintLast Go.Proofs.YteplphpbpaojjaaDoorW.PrintMore
open Go.Proofs.YteplphpbpaojjaaDoor.Bk Go.Proofs.YteplphpbpaojjaaDoor.Pb
set_option linter.unusedVariables false
set_option linter.unusedSimpArgs false
attribute [local irreducible] compress
def refB : Nat → List Int → List Int → Nat → Nat → List Int
  | 0, hs, _, _, _ => hs
  | k + 1, hs, rest, total, from_ => if rest = [] then hs else refB k (compress hs (rest.take 64) ((min (from_ + 64) total : Nat) : Int) (decide (rest.length ≤ 64))) (rest.drop 64) total (from_ + 64)
theorem run_stop (k : Nat) (hs b : List Int) (n : Int) (h : ¬ 64 < b.length) : Bk.run k hs b n = (hs, b, n) := by
  cases k with
  | zero => rfl
  | succ k => rw [Bk.run, if_neg h]
theorem refB_run : ∀ (K : Nat) (b : List Int) (hs : List Int) (from_ m k : Nat), b.length ≤ K → (b.length + m) % 64 = 0 → 0 < b.length + m → b.length + m < b.length + 64 ∨ (b.length = 0 ∧ m = 64) → b.length ≤ 64 * k → from_ + b.length < 18446744073709551616 → ∀ q, b.length ≤ q →
    refB (k + 2) hs (b ++ List.replicate m 0) (from_ + b.length) from_ =
      compress (Bk.run q hs b (from_ : Int)).1 ((Bk.run q hs b (from_ : Int)).2.1 ++ List.replicate (64 - (Bk.run q hs b (from_ : Int)).2.1.length) 0) (IntKind.u64.wrap ((Bk.run q hs b (from_ : Int)).2.2 + IntKind.u64.wrap ((Bk.run q hs b (from_ : Int)).2.1.length : Int))) true := by
  intro K
  induction K with
  | zero =>
    intro b hs from_ m k hK h64 hpos hm hk hlt q hq
    have hb : b.length = 0 := by omega
    have hbn : b = [] := List.length_eq_zero_iff.mp hb
    subst hbn
    have hm64 : m = 64 := by simp at hm hpos; omega
    subst hm64
    rw [run_stop q hs [] _ (by simp)]
    rw [refB, if_neg (by decide), refB]
    have e : (([] : List Int) ++ List.replicate 64 0).drop 64 = [] := by decide
    rw [e, if_pos rfl]
    have e2 : (([] : List Int) ++ List.replicate 64 0).take 64 = [] ++ List.replicate (64 - ([] : List Int).length) 0 := by decide
    rw [e2]
    have e3 : ((min (from_ + 64) (from_ + ([] : List Int).length) : Nat) : Int) = IntKind.u64.wrap ((from_ : Int) + IntKind.u64.wrap ((([] : List Int).length : Nat) : Int)) := by
      show ((min (from_ + 64) (from_ + 0) : Nat) : Int) = ((from_ : Int) + (0 : Int) % 18446744073709551616) % 18446744073709551616
      simp at hlt
      omega
    rw [e3]
    rfl
  | succ K ih =>
    intro b hs from_ m k hK h64 hpos hm hk hlt q hq
    by_cases hb : 64 < b.length
    · obtain ⟨q, rfl⟩ : ∃ q', q = q' + 1 := ⟨q - 1, by omega⟩
      obtain ⟨k, rfl⟩ : ∃ k', k = k' + 1 := ⟨k - 1, by omega⟩
      have hne : b ++ List.replicate m (0 : Int) ≠ [] := by
        intro e
        have := congrArg List.length e
        rw [List.length_append, List.length_replicate, List.length_nil] at this
        omega
      rw [refB, if_neg hne, Bk.run, if_pos hb]
      have e1 : (b ++ List.replicate m (0 : Int)).take 64 = b.take 64 := List.take_append_of_le_length (by omega)
      have e2 : (b ++ List.replicate m (0 : Int)).drop 64 = b.drop 64 ++ List.replicate m 0 := List.drop_append_of_le_length (by omega)
      have e3 : decide ((b ++ List.replicate m (0 : Int)).length ≤ 64) = false := decide_eq_false (by simp; omega)
      have e4 : ((min (from_ + 64) (from_ + b.length) : Nat) : Int) = ((from_ + 64 : Nat) : Int) := by omega
      have e5 : IntKind.u64.wrap ((from_ : Int) + IntKind.u64.wrap 64) = ((from_ + 64 : Nat) : Int) := by
        show ((from_ : Int) + (64 : Int) % 18446744073709551616) % 18446744073709551616 = _
        omega
      have hd : (b.drop 64).length = b.length - 64 := List.length_drop
      have e6 : from_ + b.length = from_ + 64 + (b.drop 64).length := by omega
      rw [e1, e2, e3, e4, e5, e6]
      exact ih (b.drop 64) _ (from_ + 64) m k (by omega) (by omega) (by omega) (by omega) (by omega) (by omega) q (by omega)
    · rw [run_stop q hs b _ hb]
      have hne : b ++ List.replicate m (0 : Int) ≠ [] := by
        intro e
        have := congrArg List.length e
        rw [List.length_append, List.length_replicate, List.length_nil] at this
        omega
      have hbm : b.length + m = 64 := by omega
      rw [refB, if_neg hne, refB]
      have e : (b ++ List.replicate m (0 : Int)).drop 64 = [] := List.drop_eq_nil_of_le (by simp; omega)
      have e2 : (b ++ List.replicate m (0 : Int)).take 64 = b ++ List.replicate (64 - b.length) 0 := by
        rw [List.take_of_length_le (by simp; omega), show 64 - b.length = m by omega]
      have e3 : ((min (from_ + 64) (from_ + b.length) : Nat) : Int) = IntKind.u64.wrap ((from_ : Int) + IntKind.u64.wrap (b.length : Int)) := by
        show ((min (from_ + 64) (from_ + b.length) : Nat) : Int) = ((from_ : Int) + (b.length : Int) % 18446744073709551616) % 18446744073709551616
        omega
      have e4 : decide ((b ++ List.replicate m (0 : Int)).length ≤ 64) = true := decide_eq_true (by simp; omega)
      rw [e, if_pos rfl, e2, e3, e4]
theorem ref_digest (hs b : List Int) (m k : Nat) (h64 : (b.length + m) % 64 = 0) (hpos : 0 < b.length + m) (hm : m < 64 ∨ (b.length = 0 ∧ m = 64)) (hk : b.length ≤ 64 * k) (hlt : b.length < 18446744073709551616) :
    digest hs b = ⟨(outB (refB (k + 2) hs (b ++ List.replicate m 0) b.length 0)).toArray⟩ := by
  have h := refB_run b.length b hs 0 m k (Nat.le_refl _) h64 hpos (by omega) hk (by omega) b.length (Nat.le_refl _)
  rw [Nat.zero_add] at h
  unfold digest finish runF
  rw [h]
  rfl
end Go.Proofs.YteplphpbpaojjaaDoor.Rf5
namespace Go.Proofs.YteplphpbpaojjaaDoor.Rf5
open Go.RowKit Go.Proofs.YteplphpbpaojjaaDoorW.PrintWords Go.Proofs.YteplphpbpaojjaaDoorW.PrintLast Go.Proofs.YteplphpbpaojjaaDoorW.PrintMore Go.Proofs.YteplphpbpaojjaaDoor.PRef
open Go.Proofs.YteplphpbpaojjaaDoor.Bk (firstsL initL keyL strL digest blakeKeyed compress wordsL wordAt veeL outL outB rowsL mixL finL)
set_option linter.unusedVariables false
set_option linter.unusedSimpArgs false
attribute [local go_sem] max2_int min2_int max_two min_two max_three min_three max_four min_four
def blkOf (n : Nat) : Code → Option Code
  | .block m c => if m == n then some (.block m c) else blkOf n c
  | .seq a b => match blkOf n a with
    | some c => some c
    | none => blkOf n b
  | .loop c => blkOf n c
  | .scope c => blkOf n c
  | .cond _ a b => match blkOf n a with
    | some c => some c
    | none => blkOf n b
  | _ => none
def regOf (n : Nat) : Code → Option Code
  | .region m ops d => if m == n then some (.region m ops d) else none
  | .block _ c => regOf n c
  | .seq a b => match regOf n a with
    | some c => some c
    | none => regOf n b
  | .loop c => regOf n c
  | .scope c => regOf n c
  | .cond _ a b => match regOf n a with
    | some c => some c
    | none => regOf n b
  | _ => none
noncomputable def kBlk (n : Nat) : Code := (Tryd.f48.body.bind (blkOf n)).getD .skip
noncomputable def kReg (n : Nat) : Code := (Tryd.f48.body.bind (regOf n)).getD .skip
theorem infoU32 : (Tryd.prog.info? 74).map (fun i => (i.zero, i.size, i.bytes)) = some (some (.int .u32 0), 1, 4) := by kernel_rfl
theorem one_src (W : World) : Src Tryd.prog 1 51 (.slice (some ⟨W.heap.size, 0, none⟩) 1 1) 1 [.int .u8 0] (W.alloc (.cells #[.int .u8 0] 5)) := src_lit .u8 51 5 Tryd.underlying51 [0] 1 rfl W _ (blk_new W _)
theorem one_src32 (W : World) (x : Int) : Src Tryd.prog 1 86 (.slice (some ⟨W.heap.size, 0, none⟩) 1 1) 1 (nums .u32 [x]) (W.alloc (.cells #[.int .u32 x] 74)) := src_lit .u32 86 74 Tryd.underlying86 [x] 1 rfl W _ (blk_new W _)
def kT22 : Bool × List (List Nat × List Nat) := (true, [([], []), ([], []), ([], []), ([1, 2], [1, 2]), ([3], [3]), ([4], [4]), ([], []), ([], []), ([7], [7]), ([6, 8], [6, 8]), ([9], [9]), ([10], [10]), ([11], [11]), ([5, 12], [5, 12]), ([], []), ([], []), ([15], [15]), ([14, 16], [14, 16]), ([17], [17]), ([18], [18]), ([19], [19]), ([13, 20], [13, 20]), ([], []), ([], []), ([23], [23]), ([22, 24], [22, 24]), ([25], [25]), ([26], [26]), ([27], [27]), ([21, 28], [21, 28]), ([29], [29]), ([0, 30], [0, 30]), ([31, 31, 0, 1, 2, 3, 4, 5, 6, 7, 8, 9, 10, 11, 12, 13, 14, 15, 16, 17, 18, 19, 20, 21, 22, 23, 24, 25, 26, 27, 28, 29, 30, 31], [0, 31])])
def kB22 : List Nat := [0, 0, 0, 6, 14, 30, 0, 0, 128, 448, 960, 1984, 4032, 8190, 0, 0, 32768, 114688, 245760, 507904, 1032192, 2097150, 0, 0, 8388608, 29360128, 62914560, 130023424, 264241152, 536870910, 1073741822, 2147483647, 4294967295]
theorem kt22 : rtab .any (opsOf Tryd.f48 22) = kT22 := by kernel_rfl
theorem kb22 : waitsOk kT22.2 kB22 = true := by kernel_rfl
def kT33 : Bool × List (List Nat × List Nat) := (true, [([], []), ([], []), ([], []), ([2], [2]), ([3], [3]), ([1, 4], [1, 4]), ([5], [5]), ([], []), ([], []), ([8], [8]), ([9, 4], [9]), ([7, 10], [7, 10]), ([11], [11]), ([0, 6, 12, 10], [0, 6, 12])])
def kB33 : List Nat := [0, 0, 0, 4, 12, 30, 62, 0, 0, 256, 796, 1948, 3996, 8191]
theorem kt33 : rtab .any (opsOf Tryd.f48 33) = kT33 := by kernel_rfl
theorem kb33 : waitsOk kT33.2 kB33 = true := by kernel_rfl
def kT34 : Bool × List (List Nat × List Nat) := (true, [([], []), ([], []), ([], []), ([2], [2]), ([3], [3]), ([1, 4], [1, 4]), ([5], [5]), ([], []), ([], []), ([8], [8]), ([9, 4], [9]), ([7, 10], [7, 10]), ([11], [11]), ([0, 6, 12, 10], [0, 6, 12])])
def kB34 : List Nat := [0, 0, 0, 4, 12, 30, 62, 0, 0, 256, 796, 1948, 3996, 8191]
theorem kt34 : rtab .any (opsOf Tryd.f48 34) = kT34 := by kernel_rfl
theorem kb34 : waitsOk kT34.2 kB34 = true := by kernel_rfl
def kT35 : Bool × List (List Nat × List Nat) := (true, [([], []), ([], []), ([], []), ([2], [2]), ([3], [3]), ([1, 4], [1, 4]), ([5], [5]), ([], []), ([], []), ([8], [8]), ([9, 4], [9]), ([7, 10], [7, 10]), ([11], [11]), ([0, 6, 12, 10], [0, 6, 12])])
def kB35 : List Nat := [0, 0, 0, 4, 12, 30, 62, 0, 0, 256, 796, 1948, 3996, 8191]
theorem kt35 : rtab .any (opsOf Tryd.f48 35) = kT35 := by kernel_rfl
theorem kb35 : waitsOk kT35.2 kB35 = true := by kernel_rfl
def kT36 : Bool × List (List Nat × List Nat) := (true, [([], []), ([], []), ([], []), ([2], [2]), ([3], [3]), ([1, 4], [1, 4]), ([5], [5]), ([], []), ([], []), ([8], [8]), ([9, 4], [9]), ([7, 10], [7, 10]), ([11], [11]), ([0, 6, 12, 10], [0, 6, 12])])
def kB36 : List Nat := [0, 0, 0, 4, 12, 30, 62, 0, 0, 256, 796, 1948, 3996, 8191]
theorem kt36 : rtab .any (opsOf Tryd.f48 36) = kT36 := by kernel_rfl
theorem kb36 : waitsOk kT36.2 kB36 = true := by kernel_rfl
def kT37 : Bool × List (List Nat × List Nat) := (true, [([], []), ([], []), ([], []), ([2], [2]), ([3], [3]), ([1, 4], [1, 4]), ([5], [5]), ([], []), ([], []), ([8], [8]), ([9, 4], [9]), ([7, 10], [7, 10]), ([11], [11]), ([0, 6, 12, 10], [0, 6, 12])])
def kB37 : List Nat := [0, 0, 0, 4, 12, 30, 62, 0, 0, 256, 796, 1948, 3996, 8191]
theorem kt37 : rtab .any (opsOf Tryd.f48 37) = kT37 := by kernel_rfl
theorem kb37 : waitsOk kT37.2 kB37 = true := by kernel_rfl
def kT38 : Bool × List (List Nat × List Nat) := (true, [([], []), ([], []), ([], []), ([2], [2]), ([3], [3]), ([1, 4], [1, 4]), ([5], [5]), ([], []), ([], []), ([8], [8]), ([9, 4], [9]), ([7, 10], [7, 10]), ([11], [11]), ([0, 6, 12, 10], [0, 6, 12])])
def kB38 : List Nat := [0, 0, 0, 4, 12, 30, 62, 0, 0, 256, 796, 1948, 3996, 8191]
theorem kt38 : rtab .any (opsOf Tryd.f48 38) = kT38 := by kernel_rfl
theorem kb38 : waitsOk kT38.2 kB38 = true := by kernel_rfl
def kT39 : Bool × List (List Nat × List Nat) := (true, [([], []), ([], []), ([], []), ([2], [2]), ([3], [3]), ([1, 4], [1, 4]), ([5], [5]), ([], []), ([], []), ([8], [8]), ([9, 4], [9]), ([7, 10], [7, 10]), ([11], [11]), ([0, 6, 12, 10], [0, 6, 12])])
def kB39 : List Nat := [0, 0, 0, 4, 12, 30, 62, 0, 0, 256, 796, 1948, 3996, 8191]
theorem kt39 : rtab .any (opsOf Tryd.f48 39) = kT39 := by kernel_rfl
theorem kb39 : waitsOk kT39.2 kB39 = true := by kernel_rfl
def kT40 : Bool × List (List Nat × List Nat) := (true, [([], []), ([], []), ([], []), ([2], [2]), ([3], [3]), ([1, 4], [1, 4]), ([5], [5]), ([], []), ([], []), ([8], [8]), ([9, 4], [9]), ([7, 10], [7, 10]), ([11], [11]), ([0, 6, 12, 10], [0, 6, 12])])
def kB40 : List Nat := [0, 0, 0, 4, 12, 30, 62, 0, 0, 256, 796, 1948, 3996, 8191]
theorem kt40 : rtab .any (opsOf Tryd.f48 40) = kT40 := by kernel_rfl
theorem kb40 : waitsOk kT40.2 kB40 = true := by kernel_rfl
def kT44 : Bool × List (List Nat × List Nat) := (true, [([], []), ([], []), ([], []), ([], []), ([2, 3], [2, 3]), ([4], [4]), ([], []), ([], []), ([6, 7], [6, 7]), ([8], [8]), ([5, 9], [5, 9]), ([], []), ([], []), ([12], [12]), ([11, 13], [11, 13]), ([14], [14]), ([10, 15], [10, 15]), ([0, 1, 0, 1, 2, 3, 4, 5, 6, 7, 8, 9, 10, 11, 12, 13, 14, 15, 16], [0, 1]), ([17, 16, 0, 1, 2, 3, 4, 5, 6, 7, 8, 9, 10, 11, 12, 13, 14, 15, 16], [16, 17])])
def kB44 : List Nat := [0, 0, 0, 0, 12, 28, 0, 0, 192, 448, 1020, 0, 0, 4096, 14336, 30720, 65532, 131071, 262143]
theorem kt44 : rtab .any (opsOf Tryd.f48 44) = kT44 := by kernel_rfl
theorem kb44 : waitsOk kT44.2 kB44 = true := by kernel_rfl
def kT49 : Bool × List (List Nat × List Nat) := (true, [([], []), ([], []), ([], []), ([1, 2], [1, 2]), ([3], [3]), ([4], [4]), ([5], [5]), ([], []), ([], []), ([7, 8], [7, 8]), ([9], [9]), ([10], [10]), ([11], [11]), ([12], [12]), ([], []), ([], []), ([14, 15], [14, 15]), ([16], [16]), ([17], [17]), ([18], [18]), ([19], [19]), ([], []), ([], []), ([21, 22], [21, 22]), ([23], [23]), ([24], [24]), ([25], [25]), ([6, 13, 20, 26], [6, 13, 20, 26]), ([0, 27], [0, 27]), ([28, 28, 0, 1, 2, 3, 4, 5, 6, 7, 8, 9, 10, 11, 12, 13, 14, 15, 16, 17, 18, 19, 20, 21, 22, 23, 24, 25, 26, 27, 28], [0, 28])])
def kB49 : List Nat := [0, 0, 0, 6, 14, 30, 62, 0, 0, 384, 896, 1920, 3968, 8064, 0, 0, 49152, 114688, 245760, 507904, 1032192, 0, 0, 6291456, 14680064, 31457280, 65011712, 134217726, 268435455, 536870911]
theorem kt49 : rtab .any (opsOf Tryd.f48 49) = kT49 := by kernel_rfl
theorem kb49 : waitsOk kT49.2 kB49 = true := by kernel_rfl
end Go.Proofs.YteplphpbpaojjaaDoor.Rf5
namespace Go.Proofs.YteplphpbpaojjaaDoor.Rf5
open Go.RowKit Go.Proofs.YteplphpbpaojjaaDoorW.PrintWords Go.Proofs.YteplphpbpaojjaaDoorW.PrintLast Go.Proofs.YteplphpbpaojjaaDoorW.PrintMore Go.Proofs.YteplphpbpaojjaaDoor.PRef
open Go.Proofs.YteplphpbpaojjaaDoor.Bk (firstsL initL keyL strL digest blakeKeyed compress wordsL wordAt veeL outL outB rowsL mixL finL)
set_option linter.unusedVariables false
set_option linter.unusedSimpArgs false
attribute [local go_sem] max2_int min2_int max_two min_two max_three min_three max_four min_four
theorem words_get (b : List Int) (k : Nat) (hk : k < 16) : (wordsL b).getD k 0 = wordAt b k := by
  unfold wordsL
  simp [List.getD_eq_getElem?_getD, hk]
theorem words_len (b : List Int) : (wordsL b).length = 16 := by simp [wordsL]
theorem words_take (b : List Int) (k : Nat) (hk : k < 16) : (wordsL b).take (k + 1) = (wordsL b).take k ++ [wordAt b k] := by
  have hl := words_len b
  rw [List.take_succ_eq_append_getElem (by omega), ← words_get b k hk]
  simp [List.getD_eq_getElem?_getD, hl, hk]
theorem block_get (all : List Int) (F j : Nat) (hj : j < 64) : ((all.drop F).take 64).getD j 0 = all.getD (F + j) 0 := by
  simp [List.getD_eq_getElem?_getD, List.getElem?_take, hj]
theorem word_ref (b0 b1 b2 b3 : Int) (h0 : 0 ≤ b0 ∧ b0 < 256) (h1 : 0 ≤ b1 ∧ b1 < 256) (h2 : 0 ≤ b2 ∧ b2 < 256) (h3 : 0 ≤ b3 ∧ b3 < 256) :
    IntKind.u32.wrap (IntKind.u32.wrap (IntKind.u32.wrap (IntKind.u32.wrap b0 + IntKind.u32.wrap (IntKind.u32.wrap b1 * 256)) + IntKind.u32.wrap (IntKind.u32.wrap b2 * 65536)) + IntKind.u32.wrap (IntKind.u32.wrap b3 * 16777216)) = Go.bits .or .u32 (Go.bits .or .u32 (Go.bits .or .u32 b0 (b1 * 256)) (b2 * 65536)) (b3 * 16777216) := by
  rw [word_eq b0 b1 b2 b3 h0 h1 h2 h3]
  simp only [wrap32]
  omega
set_option maxHeartbeats 8000000 in
set_option maxRecDepth 1000000 in
theorem m_words {u0 u1 u2 u3 u4 u5 u6 u7 u9 u11 u12 u15 u16 u17 u18 u19 u20 u21 u22 u23 u24 u25 u26 u27 u28 u29 u30 u31 u32 u33 u34 u35 u36 u37 u38 u39 u40 u41 u42 u43 u44 u45 u46 u47 u48 u49 u50 u51 u52 u53 u54 u55 u56 u57 u58 u59 u60 u61 u62 u63 u64 u65 u66 u67 u68 u69 u70 u71 u72 u73 u74 u75 u76 u77 u78 u79 u80 u81 u82 u83 u84 u85 u86 u87 u88 u89 u90 u91 u92 u93 u94 u95 u96 u97 u98 u99 u100 u101 u102 u103 u104 u105 u106 u107 u108 u109 u110 u111 u112 u113 u114 u115 u116 u117 u118 u119 u120 u121 u122 u123 u124 u125 u126 u127 u128 u129 u130 u131 u132 u133 u134 u135 u136 u137 u138 u139 u140 u141 u142 u143 u144 u145 u146 u147 u148 u149 u150 u151 u152 u153 u154 u155 u156 u157 u158 u159 u160 u161 u162 u163 u164 u165 u166 u167 u168 u169 u170 u171 u172 u173 u174 u175 u176 u177 u178 u179 u180 u181 u182 u183 u184 u185 u186 u187 u188 u189 u190 u191 u192 u193 u194 u195 u196 u197 u198 u199 u200 u201 u202 u203 u204 u205 u206 u207 u208 u209 u210 u211 u212 u213 u214 u215 u216 u217 u218 u219 u220 u221 u222 u223 u224 u225 u226 u227 u228 u229 u230 u231 u232 u233 u234 u235 u236 u237 u238 u239 u240 u241 u242 u243 u244 u245 u246 u247 u248 u249 u250 u251 u252 u253 u254 u255 u256 u257 u258 u259 u260 u261 u262 u263 u264 u265 u266 u267 u268 u269 u270 u271 u272 u273 u274 u275 u276 u277 u278 u279 u280 u281 u282 u283 u284 u285 u286 u287 u288 u289 u290 u291 u292 u293 u294 u295 u296 u297 u298 u299 u300 u301 u302 u303 u304 u305 u306 u307 u308 u309 u310 u311 u312 u313 u314 u315 u316 u317 u318 u319 u320 u321 u322 u323 u324 u325 u326 u327 u328 u329 u330 u331 u332 : Value} (ga N c F : Nat) (all : List Int) (W : World) (hF : F + 64 ≤ N) (hN : N ≤ 140737488355328 + 64) (hal : all.length = N)
    (ha : ∀ j, j < N → W.cell? ⟨ga, j, none⟩ = some (.int .u8 (all.getD j 0))) (hr : ∀ j, 0 ≤ all.getD j 0 ∧ all.getD j 0 < 256) {K : Act → World → Prop} {Q : Exit → Act → World → Prop} (hQ : ∀ c a a' w, Q (Exit.panic c) a w → a.defers = a'.defers → Q (Exit.panic c) a' w)
    (hK : ∀ (x14 x87 x88 x89 x90 x91 x92 x93 x94 x95 x96 x97 x98 x99 x100 x101 x102 x103 x104 x105 x106 x107 x108 x109 x110 x111 x112 x113 x114 x115 x116 x117 x118 x119 x120 x121 x122 x123 x124 : Value) (gm cm : Nat) (w' : World), W.heap.size ≤ gm → gm < w'.heap.size → (∀ j, j < 16 → w'.cell? ⟨gm, j, none⟩ = some (.int .u32 ((wordsL ((all.drop F).take 64)).getD j 0))) → Below W.heap.size W w' → K ⟨#[u0, u1, u2, u3, u4, u5, u6, u7, .slice (some ⟨ga, 0, none⟩) N c, u9, .int .i64 (F : Int), u11, u12, .slice (some ⟨gm, 0, none⟩) 16 cm, x14, u15, u16, u17, u18, u19, u20, u21, u22, u23, u24, u25, u26, u27, u28, u29, u30, u31, u32, u33, u34, u35, u36, u37, u38, u39, u40, u41, u42, u43, u44, u45, u46, u47, u48, u49, u50, u51, u52, u53, u54, u55, u56, u57, u58, u59, u60, u61, u62, u63, u64, u65, u66, u67, u68, u69, u70, u71, u72, u73, u74, u75, u76, u77, u78, u79, u80, u81, u82, u83, u84, u85, u86, x87, x88, x89, x90, x91, x92, x93, x94, x95, x96, x97, x98, x99, x100, x101, x102, x103, x104, x105, x106, x107, x108, x109, x110, x111, x112, x113, x114, x115, x116, x117, x118, x119, x120, x121, x122, x123, x124, u125, u126, u127, u128, u129, u130, u131, u132, u133, u134, u135, u136, u137, u138, u139, u140, u141, u142, u143, u144, u145, u146, u147, u148, u149, u150, u151, u152, u153, u154, u155, u156, u157, u158, u159, u160, u161, u162, u163, u164, u165, u166, u167, u168, u169, u170, u171, u172, u173, u174, u175, u176, u177, u178, u179, u180, u181, u182, u183, u184, u185, u186, u187, u188, u189, u190, u191, u192, u193, u194, u195, u196, u197, u198, u199, u200, u201, u202, u203, u204, u205, u206, u207, u208, u209, u210, u211, u212, u213, u214, u215, u216, u217, u218, u219, u220, u221, u222, u223, u224, u225, u226, u227, u228, u229, u230, u231, u232, u233, u234, u235, u236, u237, u238, u239, u240, u241, u242, u243, u244, u245, u246, u247, u248, u249, u250, u251, u252, u253, u254, u255, u256, u257, u258, u259, u260, u261, u262, u263, u264, u265, u266, u267, u268, u269, u270, u271, u272, u273, u274, u275, u276, u277, u278, u279, u280, u281, u282, u283, u284, u285, u286, u287, u288, u289, u290, u291, u292, u293, u294, u295, u296, u297, u298, u299, u300, u301, u302, u303, u304, u305, u306, u307, u308, u309, u310, u311, u312, u313, u314, u315, u316, u317, u318, u319, u320, u321, u322, u323, u324, u325, u326, u327, u328, u329, u330, u331, u332], []⟩ w') :
    Code.wp Tryd.prog (kBlk 6) (Exit.then K Q) ⟨#[u0, u1, u2, u3, u4, u5, u6, u7, .slice (some ⟨ga, 0, none⟩) N c, u9, .int .i64 (F : Int), u11, u12, .slice none 0 0, .int .i64 (F : Int), u15, u16, u17, u18, u19, u20, u21, u22, u23, u24, u25, u26, u27, u28, u29, u30, u31, u32, u33, u34, u35, u36, u37, u38, u39, u40, u41, u42, u43, u44, u45, u46, u47, u48, u49, u50, u51, u52, u53, u54, u55, u56, u57, u58, u59, u60, u61, u62, u63, u64, u65, u66, u67, u68, u69, u70, u71, u72, u73, u74, u75, u76, u77, u78, u79, u80, u81, u82, u83, u84, u85, u86, u87, u88, u89, u90, u91, u92, u93, u94, u95, u96, u97, u98, u99, u100, u101, u102, u103, u104, u105, u106, u107, u108, u109, u110, u111, u112, u113, u114, u115, u116, u117, u118, u119, u120, u121, u122, u123, u124, u125, u126, u127, u128, u129, u130, u131, u132, u133, u134, u135, u136, u137, u138, u139, u140, u141, u142, u143, u144, u145, u146, u147, u148, u149, u150, u151, u152, u153, u154, u155, u156, u157, u158, u159, u160, u161, u162, u163, u164, u165, u166, u167, u168, u169, u170, u171, u172, u173, u174, u175, u176, u177, u178, u179, u180, u181, u182, u183, u184, u185, u186, u187, u188, u189, u190, u191, u192, u193, u194, u195, u196, u197, u198, u199, u200, u201, u202, u203, u204, u205, u206, u207, u208, u209, u210, u211, u212, u213, u214, u215, u216, u217, u218, u219, u220, u221, u222, u223, u224, u225, u226, u227, u228, u229, u230, u231, u232, u233, u234, u235, u236, u237, u238, u239, u240, u241, u242, u243, u244, u245, u246, u247, u248, u249, u250, u251, u252, u253, u254, u255, u256, u257, u258, u259, u260, u261, u262, u263, u264, u265, u266, u267, u268, u269, u270, u271, u272, u273, u274, u275, u276, u277, u278, u279, u280, u281, u282, u283, u284, u285, u286, u287, u288, u289, u290, u291, u292, u293, u294, u295, u296, u297, u298, u299, u300, u301, u302, u303, u304, u305, u306, u307, u308, u309, u310, u311, u312, u313, u314, u315, u316, u317, u318, u319, u320, u321, u322, u323, u324, u325, u326, u327, u328, u329, u330, u331, u332], []⟩ W := by
  have HA := Aside0.mk ha
  have HRG := Aside0.mk hr
  have HK := Aside0.mk hK
  have HQ := Aside0.mk hQ
  clear hQ
  obtain ⟨BB, hBB⟩ : ∃ B, B = (all.drop F).take 64 := ⟨_, rfl⟩
  have HBB := Aside0.mk hBB
  clear ha hr hK hBB
  conv => arg 2; whnf
  go_wp2_with fail
  go_loopw [13, 14] (fun v iv wr => ∃ k : Nat, k ≤ 16 ∧ iv = .int .i64 ((F + 4 * k : Nat) : Int) ∧ Aside0 (NAt .u32 W W.heap.size wr v ((wordsL BB).take k))) (fun _ iv _ => F + 64 - (intOf iv).toNat)
  case atStart => exact ⟨0, Nat.zero_le _, rfl, Aside0.mk (.inl ⟨rfl, rfl, Below.refl _ _⟩)⟩
  case round =>
    obtain ⟨k, hk, rfl, HR⟩ := hrel
    by_cases hlt : k < 16
    · obtain ⟨i, hi⟩ : ∃ i : Int, i = ((F + 4 * k : Nat) : Int) := ⟨_, rfl⟩
      rw [← hi]
      have hi0 : 0 ≤ i := by omega
      have hi1 : i + 4 ≤ F + 64 := by omega
      have HI := Aside0.mk hi
      obtain ⟨j1, hj1⟩ : ∃ j : Int, wrap64 (i + 1) = j := ⟨_, rfl⟩
      obtain ⟨j2, hj2⟩ : ∃ j : Int, wrap64 (i + 2) = j := ⟨_, rfl⟩
      obtain ⟨j3, hj3⟩ : ∃ j : Int, wrap64 (i + 3) = j := ⟨_, rfl⟩
      have e1 : j1 = i + 1 := by rw [← hj1]; unfold wrap64; omega
      have e2 : j2 = i + 2 := by rw [← hj2]; unfold wrap64; omega
      have e3 : j3 = i + 3 := by rw [← hj3]; unfold wrap64; omega
      have HE := Aside0.mk (And.intro e1 (And.intro e2 e3))
      obtain ⟨b0, hb0⟩ : ∃ b : Int, b = all.getD (F + 4 * k) 0 := ⟨_, rfl⟩
      obtain ⟨b1, hb1⟩ : ∃ b : Int, b = all.getD (F + 4 * k + 1) 0 := ⟨_, rfl⟩
      obtain ⟨b2, hb2⟩ : ∃ b : Int, b = all.getD (F + 4 * k + 2) 0 := ⟨_, rfl⟩
      obtain ⟨b3, hb3⟩ : ∃ b : Int, b = all.getD (F + 4 * k + 3) 0 := ⟨_, rfl⟩
      have hx0 : wr.cell? ⟨ga, (i).toNat, none⟩ = some (.int .u8 b0) := by rw [hi, Int.toNat_natCast, hb0]; exact pw_cell_below HR.out.below (HA.out _ (by omega))
      have hx1 : wr.cell? ⟨ga, (j1).toNat, none⟩ = some (.int .u8 b1) := by rw [e1, show (i + 1).toNat = F + 4 * k + 1 by omega, hb1]; exact pw_cell_below HR.out.below (HA.out _ (by omega))
      have hx2 : wr.cell? ⟨ga, (j2).toNat, none⟩ = some (.int .u8 b2) := by rw [e2, show (i + 2).toNat = F + 4 * k + 2 by omega, hb2]; exact pw_cell_below HR.out.below (HA.out _ (by omega))
      have hx3 : wr.cell? ⟨ga, (j3).toNat, none⟩ = some (.int .u8 b3) := by rw [e3, show (i + 3).toNat = F + 4 * k + 3 by omega, hb3]; exact pw_cell_below HR.out.below (HA.out _ (by omega))
      have HB := Aside0.mk (And.intro hb0 (And.intro hb1 (And.intro hb2 hb3)))
      have HL := Aside0.mk (show ((wordsL BB).take k).length = k by rw [List.length_take, words_len]; omega)
      have p0 := eq_true hi0
      have q0 := eq_true (show i < (N : Int) by omega)
      have p1 := eq_true (show (0 : Int) ≤ j1 by omega)
      have q1 := eq_true (show j1 < (N : Int) by omega)
      have p2 := eq_true (show (0 : Int) ≤ j2 by omega)
      have q2 := eq_true (show j2 < (N : Int) by omega)
      have p3 := eq_true (show (0 : Int) ≤ j3 by omega)
      have q3 := eq_true (show j3 < (N : Int) by omega)
      have g0 : i < (F : Int) + 64 := by omega
      clear hi e1 e2 e3 hb0 hb1 hb2 hb3
      go_wp2_with fail
      refine start_ (n := 33) (S := fun w' => w'.cell? ⟨ga, (i).toNat, none⟩ = some (.int .u8 b0) ∧ w'.cell? ⟨ga, (j1).toNat, none⟩ = some (.int .u8 b1) ∧ w'.cell? ⟨ga, (j2).toNat, none⟩ = some (.int .u8 b2) ∧ w'.cell? ⟨ga, (j3).toNat, none⟩ = some (.int .u8 b3)) (ds := [30, 31]) #[false, false, false, false, false, false, false, false, false, false, false, false, false, false, false, false, false, false, false, false, false, false, false, false, false, false, false, false, false, false, false, false, false] (by kernel_rfl) rfl rfl ⟨hx0, hx1, hx2, hx3⟩ (fun hHeld => ?_); refine with_tabW kt22 kb22 (fun HT_ HW_ => ?_)
      have HRd := Aside0.mk HR.out.drew
      clear HR hx0 hx1 hx2 hx3
      generalize wr.drew = wd at HRd hHeld ⊢
      refine pure_ (i := 0) (N := some 93) (v := ?_) (a' := ?_) (lbKTab 33 1) rfl rfl (any_of HT_.out (by kernel_rfl)) (fun _ _ _ h => HQ.out _ _ _ _ h rfl) (Or.inl ⟨by rfl, ?_⟩) ?_ ?_
      rotate_left
      · intro w'
        go_simp
        with_reducible rfl
      rotate_left
      · simp only [Act.put, List.setIfInBounds_toArray, List.set_cons_zero, List.set_cons_succ, i64_w, i32_w]
        rfl
      refine pure_ (i := 1) (N := some 94) (v := ?_) (a' := ?_) (lbKTab 33 3) rfl rfl (any_of HT_.out (by kernel_rfl)) (fun _ _ _ h => HQ.out _ _ _ _ h rfl) (Or.inl ⟨by rfl, ?_⟩) ?_ ?_
      rotate_left
      · intro w'
        go_simp
        with_reducible rfl
      rotate_left
      · simp only [Act.put, List.setIfInBounds_toArray, List.set_cons_zero, List.set_cons_succ, i64_w, i32_w]
        rfl
      refine pure_ (i := 2) (N := some 95) (v := ?_) (a' := ?_) (lbKTab 33 7) rfl rfl (any_of HT_.out (by kernel_rfl)) (fun _ _ _ h => HQ.out _ _ _ _ h rfl) (Or.inl ⟨by rfl, ?_⟩) ?_ ?_
      rotate_left
      · intro w'
        go_simp
        with_reducible rfl
      rotate_left
      · simp only [Act.put, List.setIfInBounds_toArray, List.set_cons_zero, List.set_cons_succ, i64_w, i32_w]
        rfl
      refine pure_ (i := 3) (N := some 96) (v := ?_) (a' := ?_) (lbKTab 33 15) rfl rfl (any_of HT_.out (by kernel_rfl)) (fun _ _ _ h => HQ.out _ _ _ _ h rfl) (Or.inl ⟨by rfl, ?_⟩) ?_ ?_
      rotate_left
      · intro w'
        go_simp
        with_reducible rfl
      rotate_left
      · simp only [Act.put, List.setIfInBounds_toArray, List.set_cons_zero, List.set_cons_succ, i64_w, i32_w]
        rfl
      refine pure_ (i := 6) (N := some 99) (v := ?_) (a' := ?_) (lbKTab 33 79) rfl rfl (any_of HT_.out (by kernel_rfl)) (fun _ _ _ h => HQ.out _ _ _ _ h rfl) (Or.inl ⟨by rfl, ?_⟩) ?_ ?_
      rotate_left
      · intro w'
        go_simp
        with_reducible rfl
      rotate_left
      · simp only [Act.put, List.setIfInBounds_toArray, List.set_cons_zero, List.set_cons_succ, i64_w, i32_w]
        rfl
      refine pure_ (i := 7) (N := some 100) (v := ?_) (a' := ?_) (lbKTab 33 207) rfl rfl (any_of HT_.out (by kernel_rfl)) (fun _ _ _ h => HQ.out _ _ _ _ h rfl) (Or.inl ⟨by rfl, ?_⟩) ?_ ?_
      rotate_left
      · intro w'
        go_simp
        with_reducible rfl
      rotate_left
      · simp only [Act.put, List.setIfInBounds_toArray, List.set_cons_zero, List.set_cons_succ, i64_w, i32_w]
        rfl
      refine pure_ (i := 8) (N := some 101) (v := ?_) (a' := ?_) (lbKTab 33 463) rfl rfl (any_of HT_.out (by kernel_rfl)) (fun _ _ _ h => HQ.out _ _ _ _ h rfl) (Or.inl ⟨by rfl, ?_⟩) ?_ ?_
      rotate_left
      · intro w'
        go_simp
        with_reducible rfl
      rotate_left
      · simp only [Act.put, List.setIfInBounds_toArray, List.set_cons_zero, List.set_cons_succ, i64_w, i32_w]
        rfl
      refine pure_ (i := 9) (N := some 102) (v := ?_) (a' := ?_) (lbKTab 33 975) rfl rfl (any_of HT_.out (by kernel_rfl)) (fun _ _ _ h => HQ.out _ _ _ _ h rfl) (Or.inl ⟨by rfl, ?_⟩) ?_ ?_
      rotate_left
      · intro w'
        go_simp
        with_reducible rfl
      rotate_left
      · simp only [Act.put, List.setIfInBounds_toArray, List.set_cons_zero, List.set_cons_succ, i64_w, i32_w]
        rfl
      refine pure_ (i := 14) (N := some 107) (v := ?_) (a' := ?_) (lbKTab 33 17359) rfl rfl (any_of HT_.out (by kernel_rfl)) (fun _ _ _ h => HQ.out _ _ _ _ h rfl) (Or.inl ⟨by rfl, ?_⟩) ?_ ?_
      rotate_left
      · intro w'
        go_simp
        with_reducible rfl
      rotate_left
      · simp only [Act.put, List.setIfInBounds_toArray, List.set_cons_zero, List.set_cons_succ, i64_w, i32_w]
        rfl
      refine pure_ (i := 15) (N := some 108) (v := ?_) (a' := ?_) (lbKTab 33 50127) rfl rfl (any_of HT_.out (by kernel_rfl)) (fun _ _ _ h => HQ.out _ _ _ _ h rfl) (Or.inl ⟨by rfl, ?_⟩) ?_ ?_
      rotate_left
      · intro w'
        go_simp
        with_reducible rfl
      rotate_left
      · simp only [Act.put, List.setIfInBounds_toArray, List.set_cons_zero, List.set_cons_succ, i64_w, i32_w]
        rfl
      refine pure_ (i := 16) (N := some 109) (v := ?_) (a' := ?_) (lbKTab 33 115663) rfl rfl (any_of HT_.out (by kernel_rfl)) (fun _ _ _ h => HQ.out _ _ _ _ h rfl) (Or.inl ⟨by rfl, ?_⟩) ?_ ?_
      rotate_left
      · intro w'
        go_simp
        with_reducible rfl
      rotate_left
      · simp only [Act.put, List.setIfInBounds_toArray, List.set_cons_zero, List.set_cons_succ, i64_w, i32_w]
        rfl
      refine pure_ (i := 17) (N := some 110) (v := ?_) (a' := ?_) (lbKTab 33 246735) rfl rfl (any_of HT_.out (by kernel_rfl)) (fun _ _ _ h => HQ.out _ _ _ _ h rfl) (Or.inl ⟨by rfl, ?_⟩) ?_ ?_
      rotate_left
      · intro w'
        go_simp
        with_reducible rfl
      rotate_left
      · simp only [Act.put, List.setIfInBounds_toArray, List.set_cons_zero, List.set_cons_succ, i64_w, i32_w]
        rfl
      refine pure_ (i := 22) (N := some 115) (v := ?_) (a' := ?_) (lbKTab 33 4441039) rfl rfl (any_of HT_.out (by kernel_rfl)) (fun _ _ _ h => HQ.out _ _ _ _ h rfl) (Or.inl ⟨by rfl, ?_⟩) ?_ ?_
      rotate_left
      · intro w'
        go_simp
        with_reducible rfl
      rotate_left
      · simp only [Act.put, List.setIfInBounds_toArray, List.set_cons_zero, List.set_cons_succ, i64_w, i32_w]
        rfl
      refine pure_ (i := 23) (N := some 116) (v := ?_) (a' := ?_) (lbKTab 33 12829647) rfl rfl (any_of HT_.out (by kernel_rfl)) (fun _ _ _ h => HQ.out _ _ _ _ h rfl) (Or.inl ⟨by rfl, ?_⟩) ?_ ?_
      rotate_left
      · intro w'
        go_simp
        with_reducible rfl
      rotate_left
      · simp only [Act.put, List.setIfInBounds_toArray, List.set_cons_zero, List.set_cons_succ, i64_w, i32_w]
        rfl
      refine pure_ (i := 24) (N := some 117) (v := ?_) (a' := ?_) (lbKTab 33 29606863) rfl rfl (any_of HT_.out (by kernel_rfl)) (fun _ _ _ h => HQ.out _ _ _ _ h rfl) (Or.inl ⟨by rfl, ?_⟩) ?_ ?_
      rotate_left
      · intro w'
        go_simp
        with_reducible rfl
      rotate_left
      · simp only [Act.put, List.setIfInBounds_toArray, List.set_cons_zero, List.set_cons_succ, i64_w, i32_w]
        rfl
      refine pure_ (i := 25) (N := some 118) (v := ?_) (a' := ?_) (lbKTab 33 63161295) rfl rfl (any_of HT_.out (by kernel_rfl)) (fun _ _ _ h => HQ.out _ _ _ _ h rfl) (Or.inl ⟨by rfl, ?_⟩) ?_ ?_
      rotate_left
      · intro w'
        go_simp
        with_reducible rfl
      rotate_left
      · simp only [Act.put, List.setIfInBounds_toArray, List.set_cons_zero, List.set_cons_succ, i64_w, i32_w]
        rfl
      refine take_ (i := 4) (N := some 97) (v := ?_) (a' := ?_) (lbKTab 33 63161311) rfl rfl (take_ofW HT_.out HW_.out (by kernel_rfl)) (fun _ _ _ h => HQ.out _ _ _ _ h rfl) (Or.inl ⟨by rfl, ?_⟩) hHeld ?_ ?_
      rotate_left
      · rintro w' ⟨s0, s1, s2, s3⟩
        go_simp
        with_reducible rfl
      rotate_left
      · simp only [Act.put, List.setIfInBounds_toArray, List.set_cons_zero, List.set_cons_succ, i64_w, i32_w]
        rfl
      refine pure_ (i := 5) (N := some 98) (v := ?_) (a' := ?_) (lbKTab 33 63161343) rfl rfl (any_of HT_.out (by kernel_rfl)) (fun _ _ _ h => HQ.out _ _ _ _ h rfl) (Or.inl ⟨by rfl, ?_⟩) ?_ ?_
      rotate_left
      · intro w'
        go_simp
        with_reducible rfl
      rotate_left
      · simp only [Act.put, List.setIfInBounds_toArray, List.set_cons_zero, List.set_cons_succ, i64_w, i32_w]
        rfl
      refine take_ (i := 10) (N := some 103) (v := ?_) (a' := ?_) (lbKTab 33 63162367) rfl rfl (take_ofW HT_.out HW_.out (by kernel_rfl)) (fun _ _ _ h => HQ.out _ _ _ _ h rfl) (Or.inl ⟨by rfl, ?_⟩) hHeld ?_ ?_
      rotate_left
      · rintro w' ⟨s0, s1, s2, s3⟩
        go_simp
        with_reducible rfl
      rotate_left
      · simp only [Act.put, List.setIfInBounds_toArray, List.set_cons_zero, List.set_cons_succ, i64_w, i32_w]
        rfl
      refine pure_ (i := 11) (N := some 104) (v := ?_) (a' := ?_) (lbKTab 33 63164415) rfl rfl (any_of HT_.out (by kernel_rfl)) (fun _ _ _ h => HQ.out _ _ _ _ h rfl) (Or.inl ⟨by rfl, ?_⟩) ?_ ?_
      rotate_left
      · intro w'
        go_simp
        with_reducible rfl
      rotate_left
      · simp only [Act.put, List.setIfInBounds_toArray, List.set_cons_zero, List.set_cons_succ, i64_w, i32_w]
        rfl
      refine pure_ (i := 12) (N := some 105) (v := ?_) (a' := ?_) (lbKTab 33 63168511) rfl rfl (any_of HT_.out (by kernel_rfl)) (fun _ _ _ h => HQ.out _ _ _ _ h rfl) (Or.inl ⟨by rfl, ?_⟩) ?_ ?_
      rotate_left
      · intro w'
        go_simp
        with_reducible rfl
      rotate_left
      · simp only [Act.put, List.setIfInBounds_toArray, List.set_cons_zero, List.set_cons_succ, i64_w, i32_w]
        rfl
      refine pure_ (i := 13) (N := some 106) (v := ?_) (a' := ?_) (lbKTab 33 63176703) rfl rfl (any_of HT_.out (by kernel_rfl)) (fun _ _ _ h => HQ.out _ _ _ _ h rfl) (Or.inl ⟨by rfl, ?_⟩) ?_ ?_
      rotate_left
      · intro w'
        go_simp
        with_reducible rfl
      rotate_left
      · simp only [Act.put, List.setIfInBounds_toArray, List.set_cons_zero, List.set_cons_succ, i64_w, i32_w]
        rfl
      refine take_ (i := 18) (N := some 111) (v := ?_) (a' := ?_) (lbKTab 33 63438847) rfl rfl (take_ofW HT_.out HW_.out (by kernel_rfl)) (fun _ _ _ h => HQ.out _ _ _ _ h rfl) (Or.inl ⟨by rfl, ?_⟩) hHeld ?_ ?_
      rotate_left
      · rintro w' ⟨s0, s1, s2, s3⟩
        go_simp
        with_reducible rfl
      rotate_left
      · simp only [Act.put, List.setIfInBounds_toArray, List.set_cons_zero, List.set_cons_succ, i64_w, i32_w]
        rfl
      refine pure_ (i := 19) (N := some 112) (v := ?_) (a' := ?_) (lbKTab 33 63963135) rfl rfl (any_of HT_.out (by kernel_rfl)) (fun _ _ _ h => HQ.out _ _ _ _ h rfl) (Or.inl ⟨by rfl, ?_⟩) ?_ ?_
      rotate_left
      · intro w'
        go_simp
        with_reducible rfl
      rotate_left
      · simp only [Act.put, List.setIfInBounds_toArray, List.set_cons_zero, List.set_cons_succ, i64_w, i32_w]
        rfl
      refine pure_ (i := 20) (N := some 113) (v := ?_) (a' := ?_) (lbKTab 33 65011711) rfl rfl (any_of HT_.out (by kernel_rfl)) (fun _ _ _ h => HQ.out _ _ _ _ h rfl) (Or.inl ⟨by rfl, ?_⟩) ?_ ?_
      rotate_left
      · intro w'
        go_simp
        with_reducible rfl
      rotate_left
      · simp only [Act.put, List.setIfInBounds_toArray, List.set_cons_zero, List.set_cons_succ, i64_w, i32_w]
        rfl
      refine pure_ (i := 21) (N := some 114) (v := ?_) (a' := ?_) (lbKTab 33 67108863) rfl rfl (any_of HT_.out (by kernel_rfl)) (fun _ _ _ h => HQ.out _ _ _ _ h rfl) (Or.inl ⟨by rfl, ?_⟩) ?_ ?_
      rotate_left
      · intro w'
        go_simp
        with_reducible rfl
      rotate_left
      · simp only [Act.put, List.setIfInBounds_toArray, List.set_cons_zero, List.set_cons_succ, i64_w, i32_w]
        rfl
      refine take_ (i := 26) (N := some 119) (v := ?_) (a' := ?_) (lbKTab 33 134217727) rfl rfl (take_ofW HT_.out HW_.out (by kernel_rfl)) (fun _ _ _ h => HQ.out _ _ _ _ h rfl) (Or.inl ⟨by rfl, ?_⟩) hHeld ?_ ?_
      rotate_left
      · rintro w' ⟨s0, s1, s2, s3⟩
        go_simp
        with_reducible rfl
      rotate_left
      · simp only [Act.put, List.setIfInBounds_toArray, List.set_cons_zero, List.set_cons_succ, i64_w, i32_w]
        rfl
      refine pure_ (i := 27) (N := some 120) (v := ?_) (a' := ?_) (lbKTab 33 268435455) rfl rfl (any_of HT_.out (by kernel_rfl)) (fun _ _ _ h => HQ.out _ _ _ _ h rfl) (Or.inl ⟨by rfl, ?_⟩) ?_ ?_
      rotate_left
      · intro w'
        go_simp
        with_reducible rfl
      rotate_left
      · simp only [Act.put, List.setIfInBounds_toArray, List.set_cons_zero, List.set_cons_succ, i64_w, i32_w]
        rfl
      refine pure_ (i := 28) (N := some 121) (v := ?_) (a' := ?_) (lbKTab 33 536870911) rfl rfl (any_of HT_.out (by kernel_rfl)) (fun _ _ _ h => HQ.out _ _ _ _ h rfl) (Or.inl ⟨by rfl, ?_⟩) ?_ ?_
      rotate_left
      · intro w'
        go_simp
        with_reducible rfl
      rotate_left
      · simp only [Act.put, List.setIfInBounds_toArray, List.set_cons_zero, List.set_cons_succ, i64_w, i32_w]
        rfl
      refine pure_ (i := 29) (N := some 122) (v := ?_) (a' := ?_) (lbKTab 33 1073741823) rfl rfl (any_of HT_.out (by kernel_rfl)) (fun _ _ _ h => HQ.out _ _ _ _ h rfl) (Or.inl ⟨by rfl, ?_⟩) ?_ ?_
      rotate_left
      · intro w'
        go_simp
        with_reducible rfl
      rotate_left
      · simp only [Act.put, List.setIfInBounds_toArray, List.set_cons_zero, List.set_cons_succ, i64_w, i32_w]
        rfl
      refine last_ (i := 30) (N := some 123) (lbKTab 33 2147483647) rfl rfl (one_of HT_.out (by kernel_rfl)) (by decide) (fun K hK => ?_)
      refine value_ (w1 := ?_) (v := ?_) (by rfl) rfl ?_ ?_
      rotate_left 2
      · go_simp
        constructor
        · rfl
        · rfl
      refine hK.out _ _ ?_
      clear hK K
      refine norm_ (a' := ?_) ?_ ?_
      rotate_left
      · show Act.put _ (some 123) _ = _
        simp only [Act.put, List.setIfInBounds_toArray, List.set_cons_zero, List.set_cons_succ, i64_w, i32_w]
        rfl
      refine last_ (i := 31) (N := some 124) (lbKTab 33 4294967295) rfl rfl (one_of HT_.out (by kernel_rfl)) (by decide) (fun K hK => ?_)
      refine app_stepN 74 4 infoU32 (by decide) (by rfl) (.tmp 93) (.tmp 123) 86 86 rfl Tryd.underlying86 rfl (HRd.out.alloc HRd.out.below.size _) (by have := HRd.out.below.size; simp; omega) (.slice (some ⟨wd.heap.size, 0, none⟩) 1 1) 1 [IntKind.u32.wrap (IntKind.u32.wrap (IntKind.u32.wrap (IntKind.u32.wrap b0 + IntKind.u32.wrap (IntKind.u32.wrap b1 * 256)) + IntKind.u32.wrap (IntKind.u32.wrap b2 * 65536)) + IntKind.u32.wrap (IntKind.u32.wrap b3 * 16777216))] (by rfl) (one_src32 wd _) (by decide) ?aL ?_
      (case aL => rw [HL.out]; omega)
      intro v2 w2 hU2
      have HU2 := Aside0.mk hU2
      clear hU2 HRd
      refine hK.out _ _ ?_
      clear hK K
      refine norm_ (a' := ?_) ?_ ?_
      rotate_left
      · show Act.put _ (some 124) _ = _
        simp only [Act.put, List.setIfInBounds_toArray, List.set_cons_zero, List.set_cons_succ, i64_w, i32_w]
        rfl
      refine pure_ (i := 32) (N := some 13) (v := ?_) (a' := ?_) (lbKTab 33 8589934591) rfl rfl (any_of HT_.out (by kernel_rfl)) (fun _ _ _ h => HQ.out _ _ _ _ h rfl) (Or.inl ⟨by rfl, ?_⟩) ?_ ?_
      rotate_left
      · intro w'
        go_simp
        with_reducible rfl
      rotate_left
      · simp only [Act.put, List.setIfInBounds_toArray, List.set_cons_zero, List.set_cons_succ, i64_w, i32_w]
        rfl
      refine done_ (done_of HT_.out (by kernel_rfl)) ?_
      go_wp2_with fail
      go_roundw
      case rel =>
        refine ⟨k + 1, hlt, ?_, Aside0.mk (.inr ?_)⟩
        · have := HI.out
          rw [this]
          congr 1
        · obtain ⟨z0, z1, z2, z3⟩ := HB.out
          have h0 := HRG.out (F + 4 * k)
          have h1 := HRG.out (F + 4 * k + 1)
          have h2 := HRG.out (F + 4 * k + 2)
          have h3 := HRG.out (F + 4 * k + 3)
          rw [← z0] at h0
          rw [← z1] at h1
          rw [← z2] at h2
          rw [← z3] at h3
          have h := HU2.out
          rw [word_ref b0 b1 b2 b3 h0 h1 h2 h3] at h
          rw [words_take BB k hlt]
          have e : wordAt BB k = Go.bits .or .u32 (Go.bits .or .u32 (Go.bits .or .u32 b0 (b1 * 256)) (b2 * 65536)) (b3 * 16777216) := by
            unfold Bk.wordAt
            rw [HBB.out, block_get _ _ _ (by omega), block_get _ _ _ (by omega), block_get _ _ _ (by omega), block_get _ _ _ (by omega), z0, z1, z2, z3]
            rfl
          rw [e]
          exact h
      case measure => simp [intOf]; omega
    · obtain rfl : k = 16 := by omega
      rcases HR.out with ⟨_, h, _⟩ | h
      · have := words_len BB
        rw [List.take_of_length_le (by omega)] at h
        rw [h] at this
        exact absurd this (by decide)
      · rw [List.take_of_length_le (by rw [words_len]; exact Nat.le_refl _)] at h
        have hb := h.below
        obtain ⟨g, c', rfl, hg, _, hcell, _⟩ := h.ex
        rw [words_len] at hcell ⊢
        have HC := Aside0.mk (And.intro hg (And.intro hcell hb))
        clear hg hcell hb h HR
        go_wp2_with fail
        obtain ⟨hg, hcell, hb⟩ := HC.out
        refine HK.out _ _ _ _ _ _ _ _ _ _ _ _ _ _ _ _ _ _ _ _ _ _ _ _ _ _ _ _ _ _ _ _ _ _ _ _ _ _ _ _ _ _ hg (World.block_lt_of_cell? _ _ (hcell 0 (by decide))) ?_ hb
        rw [← HBB.out]
        exact hcell
end Go.Proofs.YteplphpbpaojjaaDoor.Rf5
