/- slices.Backward over a row of numbers: the iterator tells them from the last to the first. -/
import Derived.Test.YtaooiffnpnmdeaaRs
import Derived.Test.YtaooiffnpnmdeaaMtD
namespace Go.Proofs.Ytaooiffnpnmdeaa.Mt
open Go.RowKit Go.Shelf Go.Proofs.YtaooiffnpnmdeaaW.PrintWords Go.Proofs.YtaooiffnpnmdeaaW.PrintLast Go.Proofs.YtaooiffnpnmdeaaW.PrintMore
set_option linter.unusedVariables false
set_option linter.unusedSimpArgs false
attribute [local go_sem] Oper.semAt_some
/-- The numbers with their places, the last first. -/
def backs (zs : List Nat) : List (Nat × Nat) := ((List.range zs.length).zip zs).reverse
theorem backs_len (zs : List Nat) : (backs zs).length = zs.length := by simp [backs]
theorem backs_take {zs : List Nat} {i : Nat} (h : i < zs.length) : (backs zs).take (i + 1) = (backs zs).take i ++ [(zs.length - 1 - i, zs.getD (zs.length - 1 - i) 0)] := by
  rw [List.take_succ_eq_append_getElem (by rw [backs_len]; exact h)]
  congr 1
  simp only [backs, List.getElem_reverse, List.getElem_zip, List.getElem_range]
  simp [List.length_zip]
  rw [List.getElem?_eq_getElem (by omega)]
  rfl
def toldB (zs : List Nat) (xs : List (Nat × Nat)) : Prop := ∃ i, i < zs.length ∧ xs = (backs zs).take (i + 1)
theorem toldB_last {zs : List Nat} {pre : List (Nat × Nat)} {x : Nat × Nat} (h : toldB zs (pre ++ [x])) : pre.length < zs.length ∧ pre = (backs zs).take pre.length ∧ x = (zs.length - 1 - pre.length, zs.getD (zs.length - 1 - pre.length) 0) := by
  obtain ⟨i, hi, e⟩ := h
  rw [backs_take hi] at e
  obtain ⟨e1, e2⟩ := List.append_inj' e rfl
  have hl : pre.length = i := by rw [e1, List.length_take, backs_len]; omega
  rw [hl]
  exact ⟨hi, e1, by simpa using e2⟩
set_option maxHeartbeats 4000000 in
set_option maxRecDepth 100000 in
theorem back_tells (n bs : Nat) (v : Value) (zs : List Nat) (base : Nat) (w : World) (hl : zs.length ≤ 100000)
    (hb : Boxed w bs 51 v) (hown : w.ownsRow base 3 1 v (ints zs).length ((ints zs).map (Value.int .i64))) :
    Rs.Tells Fence.wide n Try.prog 33 #[.pointer (some ⟨bs, 0, none⟩)] (fun x : Nat × Nat => #[.int .i64 (x.1 : Int), .int .i64 (x.2 : Int)]) (fun k => k = bs ∨ v.ownBlock = some k) (fun xs => xs = backs zs) (toldB zs) w := by
  intro l J Jx W hsz hbox hY h0
  obtain ⟨a_, len, cap, rfl⟩ : ∃ a n c, v = .slice a n c := by rcases hown.2 with ⟨rfl, _⟩ | ⟨g, cap, cur, rfl, _⟩ <;> exact ⟨_, _, _, rfl⟩
  obtain rfl : len = zs.length := by
    rcases hown.2 with ⟨h1, h2⟩ | ⟨g, cap', cur, h1, _⟩
    · cases h1; rw [ints_len] at h2; exact h2.symm
    · cases h1; exact ints_len zs
  have hb1 := (hbox bs (.inl rfl)).trans hb
  have c1 : W.cell? ⟨bs, 0, none⟩ = some (.slice a_ zs.length cap) := (blk_cell hb1 0).trans rfl
  refine callsIn_of_wp Try.func33 rfl trivial ?_ rfl
  simp only [Try.ntmps33, List.size_toArray, List.length_cons, List.length_nil, Nat.reduceAdd, Nat.reduceSub, Array.replicate_succ, Array.replicate_zero, List.push_toArray, List.append_toArray, List.nil_append, List.cons_append]
  gi_wp2_with fail
  have HY := Aside0.mk hY
  have HO := Aside0.mk hown
  refine Rs.loop_ghost (fun kq a wr => ∃ (i : Nat) (j : Int) (t2 t4 t5 t6 t7 t8 t9 t10 t11 t12 t13 t14 t15 t16 t17 t18 : Value), a = { tmps := #[.func (.yield l) #[] #[], .pointer (some ⟨bs, 0, none⟩), t2, .int .i64 j, t4, t5, t6, t7, t8, t9, t10, t11, t12, t13, t14, t15, t16, t17, t18], defers := [] } ∧ (kq : Int) = j + 1 ∧ j + 1 + (i : Int) = (zs.length : Int) ∧ (∀ k, (k = bs ∨ (Value.slice a_ zs.length cap).ownBlock = some k) → wr.heap[k]? = w.heap[k]?) ∧ J ((backs zs).take i) wr) zs.length ⟨0, (zs.length : Int) - 1, _, _, _, _, _, _, _, _, _, _, _, _, _, _, _, _, rfl, by omega, by omega, hbox, h0⟩ ?_
  rintro kq a wr ⟨i, j, t2, t4, t5, t6, t7, t8, t9, t10, t11, t12, t13, t14, t15, t16, t17, t18, rfl, hkq, hji, hbw, hJ'⟩
  have hb2 := (hbw bs (.inl rfl)).trans hb
  have d1 : wr.cell? ⟨bs, 0, none⟩ = some (.slice a_ zs.length cap) := (blk_cell hb2 0).trans rfl
  have HJ' := Aside0.mk hJ'
  have HBW := Aside0.mk hbw
  clear hb hown hb1 c1 hJ' hbw hbox h0 hY
  by_cases hj0 : 0 ≤ j
  · obtain ⟨m, rfl⟩ : ∃ m : Nat, j = (m : Int) := ⟨j.toNat, by omega⟩
    have hm : m < zs.length := by omega
    have hnn : zs ≠ [] := by intro e; rw [e] at hm; exact absurd hm (by simp)
    obtain ⟨g, rfl⟩ : ∃ g, a_ = some ⟨g, 0, none⟩ := by
      rcases HO.out.2 with ⟨h1, h2⟩ | ⟨g, cap', cur, h1, _⟩
      · rw [ints_len] at h2; omega
      · simp only [Value.slice.injEq] at h1; exact ⟨g, h1.1⟩
    have hcell0 : w.cell? ⟨g, m, none⟩ = some (.int .i64 ((zs.getD m 0 : Nat) : Int)) := by
      have := HO.out
      rw [ints_len] at this
      rw [this.cellAt m (by omega)]
      simp only [ints, List.map_map]
      rw [List.getElem?_map, List.getElem?_eq_getElem hm, List.getD_eq_getElem?_getD, List.getElem?_eq_getElem hm]
      rfl
    have hcell : wr.cell? ⟨g, m, none⟩ = some (.int .i64 ((zs.getD m 0 : Nat) : Int)) := cell_of_block (HBW.out g (.inr rfl)) hcell0
    have hlt3 : ∀ k, (k = bs ∨ (Value.slice (some ⟨g, 0, none⟩) zs.length cap).ownBlock = some k) → k < wr.heap.size := by
      rintro k (rfl | h)
      · exact blk_lt hb2
      · obtain rfl : g = k := by simpa [Value.ownBlock] using h
        exact World.block_lt_of_cell? wr _ hcell
    have hi : i < zs.length := by omega
    have hx : (zs.length - 1 - i, zs.getD (zs.length - 1 - i) 0) = (m, zs.getD m 0) := by rw [show zs.length - 1 - i = m by omega]
    have hbt := backs_take hi
    rw [hx] at hbt
    obtain ⟨fn, tmps, assign, body, hy, hR2⟩ := HY.out ((backs zs).take i) (m, zs.getD m 0) wr HJ'.out ⟨i, hi, hbt.symm⟩ hlt3
    dsimp only at hy
    have HR := Aside0.mk hR2
    have HBT := Aside0.mk hbt
    have i0 : (0 : Int) ≤ (m : Int) := by omega
    have i1 : (m : Int) < (zs.length : Int) := by omega
    clear hR2 hbt hx hnn hcell0 hlt3 hb2
    generalize zs.getD m 0 = z at *
    gi_wp2_with fail
    refine ⟨fun h => (by cases h), HR.out.mono ?_⟩
    rintro e W3 (⟨rfl, hJ3, hsz3, hb3⟩ | ⟨rfl, hJx⟩)
    · have HJ3 := Aside0.mk hJ3
      have HB3 := Aside0.mk hb3
      clear hJ3 hsz3 hb3
      gi_wp2_with fail
      refine ⟨kq - 1, by omega, i + 1, (m : Int) - 1, _, _, _, _, _, _, _, _, _, _, _, _, _, _, _, _, rfl, by omega, by omega, fun k hk => (HB3.out k hk).trans (HBW.out k hk), by rw [HBT.out]; exact HJ3.out⟩
    · have HX := Aside0.mk hJx
      clear hJx
      gi_wp2_with fail
      exact bodyPost_ret (results_none rfl _ _ _) rfl ⟨⟨_, rfl⟩, .inr ⟨_, HX.out⟩⟩
  · obtain rfl : j = -1 := by omega
    obtain rfl : i = zs.length := by omega
    gi_wp2_with fail
    have hfin : J (backs zs) wr := by
      have e := HJ'.out
      rw [List.take_of_length_le (by rw [backs_len]; exact Nat.le_refl _)] at e
      exact e
    exact bodyPost_end (results_none rfl _ _ _) rfl ⟨⟨_, rfl⟩, .inl hfin⟩
theorem backward_calls (a : Option Addr) (n c : Nat) (w : World) : Calls Try.prog 30 #[.slice a n c] w fun e w' => e = .returned (.func (.func 33) #[] #[.pointer (some ⟨w.heap.size, 0, none⟩)]) ∧ w' = w.alloc (.cells #[.slice a n c] 51) := by
  go_enter Try.func30, Try.ntmps30
  go_wp2_with fail
  go_ret
  exact ⟨rfl, rfl⟩
end Go.Proofs.Ytaooiffnpnmdeaa.Mt
