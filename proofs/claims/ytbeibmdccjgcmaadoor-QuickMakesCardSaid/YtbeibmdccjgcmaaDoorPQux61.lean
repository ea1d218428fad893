/- Lists and their bytes, in plain words. -/
import Derived.Test.YtbeibmdccjgcmaaDoorPQux57
import Derived.Test.YtbeibmdccjgcmaaDoorLib
import Derived.Shelf.SlicesQ.IndexFunc
import Derived.Test.YtbeibmdccjgcmaaDoorPQux64
namespace Go.Proofs.YtbeibmdccjgcmaaDoor.PQu
open Go.RowKit Go.Lib Go.Shelf Go.Proofs.YtbeibmdccjgcmaaDoorW.PrintWords Go.Proofs.YtbeibmdccjgcmaaDoorW.PrintLast Go.Proofs.YtbeibmdccjgcmaaDoorW.PrintMore Go.Proofs.YtbeibmdccjgcmaaDoor.Pb
set_option linter.unusedVariables false
set_option linter.unusedSimpArgs false
instance : Inhabited MS := ⟨z33⟩
def laysQ_ren : Go.Shelf.Ren := ⟨fun | 8 => 30 | 6 => 46 | n => n, fun | 22 => 22 | 23 => 33 | 25 => 36 | 4 => 4 | 3 => 3 | 0 => 0 | n => n, fun | n => n⟩
theorem laysQ : Go.Proofs.SlLaysH0.n8 Tryd.prog laysQ_ren := {
  mixed := by kernel_rfl
  f6 := ⟨Tryd.f46.name, by decide, Tryd.func46.trans (congrArg some (by kernel_rfl))⟩
  f8 := ⟨Tryd.f30.name, by decide, Tryd.func30.trans (congrArg some (by kernel_rfl))⟩
  t0 := Tryd.underlying0
  a0 := Tryd.isAgg0
  z0 := Tryd.sizeOf0
  v0 := Tryd.zeroValue0
  t3 := Tryd.underlying3
  a3 := Tryd.isAgg3
  z3 := Tryd.sizeOf3
  v3 := Tryd.zeroValue3
  t4 := Tryd.underlying4
  a4 := Tryd.isAgg4
  z4 := Tryd.sizeOf4
  v4 := Tryd.zeroValue4
  t22 := Tryd.underlying22
  a22 := Tryd.isAgg22
  z22 := Tryd.sizeOf22
  v22 := Tryd.zeroValue22
  t25 := Tryd.underlying36
  a25 := Tryd.isAgg36
  z25 := Tryd.sizeOf36
  v25 := Tryd.zeroValue36 }
def encQ (x : MS) : List Value := [.string x.f0, .int .i64 x.f1, .int .i64 x.f2, .int .i64 x.f3, .string x.f4]
set_option maxHeartbeats 1000000 in
/-- The predicate. -/
theorem pred_calls (w W : World) (hT : Me.Tabs w) (hB : Below w.heap.size w W) (x : MS) :
    Calls Tryd.prog 31 (#[.agg (encQ x).toArray] ++ #[]) W fun e w' => e = .returned (.bool (!fineQ x)) ∧ Below w.heap.size w w' := by
  have HT := Aside0.mk (hT.below hB)
  have HB := Aside0.mk hB
  clear hT hB
  obtain ⟨nm, mo, ti, sz, su⟩ := x
  have hg := blk_new W (.cells #[.string nm, .int .i64 mo, .int .i64 ti, .int .i64 sz, .string su] 33)
  have HB1 := Aside0.mk (below_alloc (Below.refl _ W) (.cells #[.string nm, .int .i64 mo, .int .i64 ti, .int .i64 sz, .string su] 33))
  have HG := Aside0.mk hg
  clear hg
  show Calls Tryd.prog 31 #[.agg #[.string nm, .int .i64 mo, .int .i64 ti, .int .i64 sz, .string su]] W _
  go_enter Tryd.func31, Tryd.ntmps31
  go_upto_region 1 with fail
  generalize W.alloc (.cells #[.string nm, .int .i64 mo, .int .i64 ti, .int .i64 sz, .string su] 33) = W1 at HG HB1 ⊢
  obtain ⟨g, hgg⟩ : ∃ g, g = W.heap.size := ⟨_, rfl⟩
  rw [← hgg] at HG ⊢
  clear hgg
  have c0 := (blk_cell HG.out 0).trans rfl
  have c1 := (blk_cell HG.out 1).trans rfl
  have c2 := (blk_cell HG.out 2).trans rfl
  have c3 := (blk_cell HG.out 3).trans rfl
  have c4 := (blk_cell HG.out 4).trans rfl
  go_wp2_with fail
  refine (Me.may_calls nm mo ti sz su _ (HT.out.below HB1.out)).mono ?_
  rintro e w3 ⟨rfl, hb⟩
  have HW := Aside0.mk (HB.out.trans ((HB1.out.trans (hb.mono HB1.out.size)).mono HB.out.size))
  clear hb c0 c1 c2 c3 c4
  generalize hm : Me.mayB nm mo ti sz su = m
  have HM := Aside0.mk (show fineQ ⟨nm, mo, ti, sz, su⟩ = m from hm)
  clear hm
  go_wp2_with fail
  go_ret
  refine ⟨?_, HW.out⟩
  rw [HM.out]
  rfl
set_option maxHeartbeats 1000000 in
/-- Is there one that may not be? -/
theorem contains_calls (A : Option Addr) (c : Nat) (l : List MS) (w : World) (hT : Me.Tabs w) (hr : Kd.C k33 w A l.length l) (hn : l.length ≤ 1000000) :
    Calls Tryd.prog 30 #[.slice A l.length c, .func (.func 31) #[] #[]] w fun e w' => e = .returned (.bool (l.any fun x => !fineQ x)) ∧ Below w.heap.size w w' := by
  by_cases h0 : l.length = 0
  · obtain rfl := List.eq_nil_of_length_eq_zero h0
    clear hr hT h0 hn
    go_enter Tryd.func30, Tryd.ntmps30
    go_wp2_with fail
    have key : Calls Tryd.prog 46 #[.slice A 0 c, .func (.func 31) #[] #[]] w fun e w' => e = .returned (.int .i64 (-1)) ∧ w' = w := by
      go_enter Tryd.func46, Tryd.ntmps46
      go_wp2
      refine wp_loop_rounds 1 ?_
      rw [rounds_succ]
      go_wp2
      go_ret
      exact ⟨rfl, rfl⟩
    refine key.mono ?_
    rintro e w1 ⟨rfl, rfl⟩
    go_wp2_with fail
    go_ret
    exact ⟨rfl, Below.refl _ _⟩
  · obtain ⟨ad, ea, hq, _⟩ := at_T33 hr 0 (by decide) (by omega)
    cases ea
    obtain ⟨b, off, spot⟩ := ad
    have hb : b < w.heap.size := World.block_lt_of_cell? w _ hq
    have hsp : spot = none := by
      have h1 : w.cell? ⟨b, off, spot⟩ = some (.string (rd_T33 l 0).f0) := hq
      cases spot with
      | none => rfl
      | some z =>
        unfold World.cell? at h1
        revert h1
        dsimp only
        cases w.heap[b]? with
        | none => simp
        | some o => cases o <;> simp
    subst hsp
    clear hq
    have hcell : ∀ j, j < l.length → ∀ i v, (encQ l[j]!)[i]? = some v → w.cell? ⟨b, off + j * 5 + i, none⟩ = some v := by
      intro j hj i v hi
      obtain ⟨ad2, ea2, q0, q1, q2, q3, q4⟩ := at_T33 hr (j : Int) (by omega) (by omega)
      cases ea2
      have ej : rd_T33 l (j : Int) = l[j]! := by
        unfold rd_T33
        rw [Int.toNat_natCast, List.getD_eq_getElem?_getD, List.getElem?_eq_getElem hj, getElem!_pos l j hj]
        rfl
      rw [ej, Int.toNat_natCast, Addr.add_lit] at q0 q1 q2 q3 q4
      match i, hi with
      | 0, hi => exact Option.some.inj hi ▸ q0
      | 1, hi => exact Option.some.inj hi ▸ q1
      | 2, hi => exact Option.some.inj hi ▸ q2
      | 3, hi => exact Option.some.inj hi ▸ q3
      | 4, hi => exact Option.some.inj hi ▸ q4
      | z + 5, hi => simp [encQ] at hi
    refine (AnyQ.slices_ContainsFunc laysQ 5 Tryd.isAgg33 Tryd.sizeOf33 encQ (fun _ => rfl) (fun x => !fineQ x) 31 #[] (fun args w => enters_ Tryd.func31 (by kernel_rfl) rfl args w) b off l.length c l w (fun W x hW => pred_calls w W hT hW x) (Nat.le_refl _) (by omega) hb hcell).mono ?_
    rintro e w' ⟨rfl, h⟩
    rw [List.take_length]
    exact ⟨rfl, h⟩
def mayQ (l : List MS) : Bool := (makeQ l).2 == 0
theorem makeQ_two (l : List MS) : (makeQ l).2 = if badQ l = 0 then togQ l else badQ l := by
  unfold makeQ
  by_cases h1 : badQ l = 0
  · rw [if_pos h1, if_pos h1]
    by_cases h2 : togQ l = 0
    · rw [if_pos h2, h2]
    · rw [if_neg h2]
  · rw [if_neg h1, if_neg h1]
set_option maxHeartbeats 1000000 in
theorem qmay_calls (A : Option Addr) (c : Nat) (l : List MS) (w : World) (hT : Me.Tabs w) (hr : Kd.C k33 w A l.length l) (hn : l.length ≤ 1000000) :
    Calls Tryd.prog 12 #[.slice A l.length c] w fun e w' => e = .returned (.bool (mayQ l)) ∧ Below w.heap.size w w' := by
  have HR := Aside0.mk hr
  have HT := Aside0.mk hT
  clear hr hT
  have hany : (l.any fun x => !fineQ x) = !decide (badQ l = 0) := by
    by_cases h : badQ l = 0
    · rw [decide_eq_true h, Bool.not_true, List.any_eq_false]
      intro x hx
      rw [(mkQ_fine x).1 ((badQ_iff l).1 h x hx)]
      decide
    · rw [decide_eq_false h, Bool.not_false, List.any_eq_true]
      have h2 : ¬ ∀ x ∈ l, (mkQ x).2 = 0 := fun h2 => h ((badQ_iff l).2 h2)
      obtain ⟨x, hx⟩ := Classical.not_forall.1 h2
      obtain ⟨hx, hx2⟩ := Classical.not_imp.1 hx
      refine ⟨x, hx, ?_⟩
      cases hf : fineQ x with
      | true => exact absurd ((mkQ_fine x).2 hf) hx2
      | false => rfl
  have hmay : mayQ l = ((if badQ l = 0 then togQ l else badQ l) == 0) := by unfold mayQ; rw [makeQ_two]
  have HM := Aside0.mk hmay
  by_cases hb : badQ l = 0
  · have hc := contains_calls A c l w HT.out HR.out hn
    rw [hany, decide_eq_true hb] at hc
    have HC := Aside0.mk hc
    have hall := (badQ_iff l).1 hb
    have hsz : ∀ x ∈ l, 0 ≤ x.f3 ∧ x.f3 ≤ 32768 := fun x hx => by
      have h := Me.rest_iff (fineQ_parts ((mkQ_fine x).1 (hall x hx))).2
      exact ⟨h.2.2.2.2.1, h.2.2.2.2.2.1⟩
    have hnm : ∀ x ∈ l, x.f0.size ≤ 255 := fun x hx => Me.name_len (fineQ_parts ((mkQ_fine x).1 (hall x hx))).1
    have HSZ := Aside0.mk hsz
    have HNM := Aside0.mk hnm
    rw [if_pos hb] at hmay
    have HM := Aside0.mk hmay
    clear hc hany hmay hall hsz hnm hb
    go_enter Tryd.func12, Tryd.ntmps12
    go_wp2_with fail
    refine HC.out.mono ?_
    rintro e w1 ⟨rfl, hb⟩
    have HB := Aside0.mk hb
    clear hb
    go_wp2_with fail
    refine (together_calls A c l _ (Kd.C_below HR.out HB.out) hn HSZ.out HNM.out).mono ?_
    rintro e w2 ⟨rfl, hb⟩
    have HB2 := Aside0.mk (HB.out.trans (hb.mono HB.out.size))
    clear hb
    go_wp2_with fail
    go_ret
    refine ⟨?_, HB2.out⟩
    rw [HM.out]
    rfl
  · have hc := contains_calls A c l w HT.out HR.out hn
    rw [hany, decide_eq_false hb] at hc
    have HC := Aside0.mk hc
    rw [if_neg hb, beq_eq_false_iff_ne.mpr hb] at hmay
    have HM := Aside0.mk hmay
    clear hc hany hmay hb
    go_enter Tryd.func12, Tryd.ntmps12
    go_wp2_with fail
    refine HC.out.mono ?_
    rintro e w1 ⟨rfl, hb⟩
    have HB := Aside0.mk hb
    clear hb
    go_wp2_with fail
    go_ret
    refine ⟨?_, HB.out⟩
    rw [HM.out]
    rfl
end Go.Proofs.YtbeibmdccjgcmaaDoor.PQu
namespace Go.Proofs.YtbeibmdccjgcmaaDoor.PQu
open Go.RowKit Go.Lib Go.Proofs.YtbeibmdccjgcmaaDoorW.PrintWords Go.Proofs.YtbeibmdccjgcmaaDoorW.PrintLast Go.Proofs.YtbeibmdccjgcmaaDoorW.PrintMore Go.Proofs.YtbeibmdccjgcmaaDoor.Pb
set_option linter.unusedVariables false
set_option linter.unusedSimpArgs false
theorem all_fine {l : List MS} (h : badQ l = 0) : ∀ x ∈ l, fineQ x = true := fun x hx => (mkQ_fine x).1 ((badQ_iff l).1 h x hx)
end Go.Proofs.YtbeibmdccjgcmaaDoor.PQu
namespace Go.Proofs.YtbeibmdccjgcmaaDoor.PQu
open Go.RowKit Go.Proofs.YtbeibmdccjgcmaaDoorW.PrintWords Go.Proofs.YtbeibmdccjgcmaaDoorW.PrintLast Go.Proofs.YtbeibmdccjgcmaaDoorW.PrintMore
attribute [local go_sem] max2_int min2_int max_two min_two max_three min_three max_four min_four   -- for this text's walks alone
set_option linter.unusedVariables false
set_option linter.unusedSimpArgs false

/-! ### quick_May: function 12 -/
def quick_May.f (k : Nat) (l0 : List (S33)) : Option (Bool) := if l0.length ≤ 1000000 then some (mayQ l0) else none
theorem quick_May.calls (k : Nat) (A0 : Option Addr) (c0 : Nat) (l0 : List (S33)) (r : Bool) (w : World) (hTabs : Me.Tabs w) (hr0 : Kd.C k33 w A0 l0.length l0) (hc0 : l0.length ≤ c0) (h : quick_May.f k l0 = some r) :
    Calls Tryd.prog 12 #[.slice A0 l0.length c0] w fun e w' => e = .returned (.bool r) ∧ Below w.heap.size w w' := by
  unfold quick_May.f at h
  by_cases hs : l0.length ≤ 1000000
  · rw [if_pos hs] at h
    obtain rfl := Option.some.inj h
    exact qmay_calls A0 c0 l0 w hTabs hr0 hs
  · rw [if_neg hs] at h
    exact absurd h (by simp)

end Go.Proofs.YtbeibmdccjgcmaaDoor.PQu
