/- quick.together: whether all that is said may stand in one list. -/
import Derived.Test.YtbeibmdccjgcmaaDoorProg
import Derived.Below
import Derived.Deep.Draws
import Derived.Deep.AppendLies
import Derived.Maps.AppendAt
import Derived.OwnWalk
import Derived.Laws.BytesArg
import Derived.Laws.MakeOwn
import Derived.Laws.OwnMore
import Derived.Deep.OwnRows
import Derived.Tactics
import Derived.Lib.ConvBytes
import Derived.Laws.Slices
import Derived.WalkKit
import Derived.KernelRfl
import Derived.RowKit3
import Derived.Deep.LoopGhost
import Derived.Deep.QuietTactic
import Derived.BigQuiet
import Derived.WideLaws
import Derived.Deep.DeepCutAuto
import Derived.Deep.CutBlock
import Derived.Deep.RegionHeld3
import Derived.Laws.Rows
import Derived.Lib.AppendStr
import Derived.ArgAppend
import Derived.Laws.IdiomCopy
import Derived.OrdersHeld
import Derived.Laws.BitsLemmas
import Derived.RowKit
import Derived.Test.YtbeibmdccjgcmaaDoorWWords
import Derived.Test.YtbeibmdccjgcmaaDoorWLast
import Derived.Test.YtbeibmdccjgcmaaDoorWTab
import Derived.Test.YtbeibmdccjgcmaaDoorWFour
import Derived.Test.YtbeibmdccjgcmaaDoorWQPut
import Derived.Test.YtbeibmdccjgcmaaDoorWApart
import Derived.Test.YtbeibmdccjgcmaaDoorWArr
import Derived.Test.YtbeibmdccjgcmaaDoorWZeros
import Derived.Test.YtbeibmdccjgcmaaDoorWFoot
import Derived.Test.YtbeibmdccjgcmaaDoorWKept
import Derived.Test.YtbeibmdccjgcmaaDoorWShare
import Derived.Test.YtbeibmdccjgcmaaDoorWN
import Derived.Test.YtbeibmdccjgcmaaDoorWFootNe
import Derived.Test.YtbeibmdccjgcmaaDoorWAt
import Derived.Test.YtbeibmdccjgcmaaDoorWEqStruct
import Derived.Test.YtbeibmdccjgcmaaDoorWRepsOne
import Derived.Test.YtbeibmdccjgcmaaDoorWInv
import Derived.Test.YtbeibmdccjgcmaaDoorWInvWords
import Derived.Test.YtbeibmdccjgcmaaDoorWGuard
import Derived.Test.YtbeibmdccjgcmaaDoorWNEv
import Derived.Test.YtbeibmdccjgcmaaDoorWMore
import Derived.Maps.Own
import Derived.Maps.OwnOps
import Derived.Maps.Views
namespace Go.Proofs.YtbeibmdccjgcmaaDoor.PQu
open Go.RowKit Go.Proofs.YtbeibmdccjgcmaaDoorW.PrintWords Go.Proofs.YtbeibmdccjgcmaaDoorW.PrintLast Go.Proofs.YtbeibmdccjgcmaaDoorW.PrintMore
attribute [local go_sem] max2_int min2_int max_two min_two max_three min_three max_four min_four   -- for this text's walks alone
set_option linter.unusedVariables false
set_option linter.unusedSimpArgs false



def errW : Option Int → Value
  | none => .nilIface
  | some c => .iface 0 (.int .i64 c)
theorem errW_none : errW none = .nilIface := rfl
theorem errW_some (c : Int) : errW (some c) = .iface 0 (.int .i64 c) := rfl

theorem info33 : (Tryd.prog.info? 33).map (fun i => (i.zero, i.size, i.bytes)) = some (some (.agg #[(.string ⟨#[]⟩), (.int .i64 0), (.int .i64 0), (.int .i64 0), (.string ⟨#[]⟩)]), 5, 56) := by kernel_rfl
-- the values' own types
/-! #### struct type 33 -/
structure S33 where
  f0 : ByteArray
  f1 : Int
  f2 : Int
  f3 : Int
  f4 : ByteArray
def z33 : S33 := ⟨(⟨#[]⟩ : ByteArray), (0 : Int), (0 : Int), (0 : Int), (⟨#[]⟩ : ByteArray)⟩
def k33 : Kd S33 := Kd.iso (Kd.pair Kd.string (Kd.pair (Kd.int .i64) (Kd.pair (Kd.int .i64) (Kd.pair (Kd.int .i64) Kd.string)))) (fun x : S33 => (x.f0, x.f1, x.f2, x.f3, x.f4))
theorem k33_open {w : World} {x : S33} {cs : List Value} (h : k33.K w x cs) : cs = [.string x.f0, .int .i64 x.f1, .int .i64 x.f2, .int .i64 x.f3, .string x.f4] := by
  obtain ⟨_, _, rfl, rfl, ⟨_, _, rfl, rfl, ⟨_, _, rfl, rfl, ⟨_, _, rfl, rfl, rfl⟩⟩⟩⟩ := h
  exact rfl
theorem k33_mkM (w : World) (base : Nat) (ok : Nat → Prop) (x : S33)  : k33.M w base ok x [.string x.f0, .int .i64 x.f1, .int .i64 x.f2, .int .i64 x.f3, .string x.f4] := ⟨[.string x.f0], [.int .i64 x.f1, .int .i64 x.f2, .int .i64 x.f3, .string x.f4], rfl, rfl, ⟨[.int .i64 x.f1], [.int .i64 x.f2, .int .i64 x.f3, .string x.f4], rfl, rfl, ⟨[.int .i64 x.f2], [.int .i64 x.f3, .string x.f4], rfl, rfl, ⟨[.int .i64 x.f3], [.string x.f4], rfl, rfl, rfl⟩⟩⟩⟩
def rd_T33 (xs : List S33) (i : Int) : S33 := xs.getD i.toNat z33
theorem at_T33 {w : World} {A : Option Addr} {n : Nat} {xs : List S33} (h : Kd.C k33 w A n xs) (i : Int) (h0 : 0 ≤ i) (h1 : i < n) : ∃ ad , A = some ad ∧ w.cell? (ad.add (i.toNat * 5)) = some (.string (rd_T33 xs i).f0) ∧ w.cell? ⟨(ad.add (i.toNat * 5)).block, (ad.add (i.toNat * 5)).off + 1, none⟩ = some (.int .i64 (rd_T33 xs i).f1) ∧ w.cell? ⟨(ad.add (i.toNat * 5)).block, (ad.add (i.toNat * 5)).off + 2, none⟩ = some (.int .i64 (rd_T33 xs i).f2) ∧ w.cell? ⟨(ad.add (i.toNat * 5)).block, (ad.add (i.toNat * 5)).off + 3, none⟩ = some (.int .i64 (rd_T33 xs i).f3) ∧ w.cell? ⟨(ad.add (i.toNat * 5)).block, (ad.add (i.toNat * 5)).off + 4, none⟩ = some (.string (rd_T33 xs i).f4) := by
  obtain ⟨ad, c, e, _, hK, hc0⟩ := Kd.C_get h z33 i h0 h1
  have hc : ∀ j u, c[j]? = some u → w.cell? (ad.add (i.toNat * 5 + j)) = some u := hc0
  obtain rfl := k33_open hK
  exact ⟨ad, e, hc 0 _ rfl, by rw [← add_field _ _ 1 (by omega)]; exact hc 1 _ rfl, by rw [← add_field _ _ 2 (by omega)]; exact hc 2 _ rfl, by rw [← add_field _ _ 3 (by omega)]; exact hc 3 _ rfl, by rw [← add_field _ _ 4 (by omega)]; exact hc 4 _ rfl⟩

end Go.Proofs.YtbeibmdccjgcmaaDoor.PQu
namespace Go.Proofs.YtbeibmdccjgcmaaDoor.PQu
open Go.RowKit Go.Proofs.YtbeibmdccjgcmaaDoorW.PrintWords Go.Proofs.YtbeibmdccjgcmaaDoorW.PrintLast Go.Proofs.YtbeibmdccjgcmaaDoorW.PrintMore
attribute [local go_sem] max2_int min2_int max_two min_two max_three min_three max_four min_four   -- for this text's walks alone
set_option linter.unusedVariables false
set_option linter.unusedSimpArgs false

/-! ### hamperlaw21_large: function 9 -/
end Go.Proofs.YtbeibmdccjgcmaaDoor.PQu
namespace Go.Proofs.YtbeibmdccjgcmaaDoor.PQu
open Go.RowKit Go.Proofs.YtbeibmdccjgcmaaDoorW.PrintWords Go.Proofs.YtbeibmdccjgcmaaDoorW.PrintLast Go.Proofs.YtbeibmdccjgcmaaDoorW.PrintMore
attribute [local go_sem] max2_int min2_int max_two min_two max_three min_three max_four min_four   -- for this text's walks alone
set_option linter.unusedVariables false
set_option linter.unusedSimpArgs false

/-! ### hamperref19_bytes: function 45 -/
end Go.Proofs.YtbeibmdccjgcmaaDoor.PQu
namespace Go.Proofs.YtbeibmdccjgcmaaDoor.PQu
open Go.RowKit Go.Proofs.YtbeibmdccjgcmaaDoorW.PrintWords Go.Proofs.YtbeibmdccjgcmaaDoorW.PrintLast Go.Proofs.YtbeibmdccjgcmaaDoorW.PrintMore
attribute [local go_sem] max2_int min2_int max_two min_two max_three min_three max_four min_four   -- for this text's walks alone
set_option linter.unusedVariables false
set_option linter.unusedSimpArgs false

theorem eqA33 (d : Nat) (w : World) (x0 y0 : ByteArray) (x1 y1 : Int) (x2 y2 : Int) (x3 y3 : Int) (x4 y4 : ByteArray) :
    (Op.equalIn (d + 2) 33 (.agg #[.string x0, .int .i64 x1, .int .i64 x2, .int .i64 x3, .string x4]) (.agg #[.string y0, .int .i64 y1, .int .i64 y2, .int .i64 y3, .string y4])).run Tryd.prog w = .ok (x0.toList == y0.toList && (x1 == y1 && (x2 == y2 && (x3 == y3 && (x4.toList == y4.toList))))) w := by
  refine eqA_of Tryd.underlying33 (by kernel_rfl) ?_
  refine eqf_cons (by rfl) (by go_simp; rfl) (by go_simp; rfl) (by go_simp) ?_
  refine eqf_cons (by rfl) (by go_simp; rfl) (by go_simp; rfl) (by go_simp) ?_
  refine eqf_cons (by rfl) (by go_simp; rfl) (by go_simp; rfl) (by go_simp) ?_
  refine eqf_cons (by rfl) (by go_simp; rfl) (by go_simp; rfl) (by go_simp) ?_
  exact eqf_last (by rfl) (by go_simp; rfl) (by go_simp; rfl) (by go_simp)
end Go.Proofs.YtbeibmdccjgcmaaDoor.PQu
namespace Go.Proofs.YtbeibmdccjgcmaaDoor.PQu
open Go.RowKit Go.Proofs.YtbeibmdccjgcmaaDoorW.PrintWords Go.Proofs.YtbeibmdccjgcmaaDoorW.PrintLast Go.Proofs.YtbeibmdccjgcmaaDoorW.PrintMore
attribute [local go_sem] max2_int min2_int max_two min_two max_three min_three max_four min_four   -- for this text's walks alone
set_option linter.unusedVariables false
set_option linter.unusedSimpArgs false

attribute [local go_sem high] eqA33
/-! ### hamperref21_Same: function 15 -/
def hamperref21_Same.l0 : Nat → List (S33) → List (S33) → Int → Option (Bool)
  | 0, _, _, _ => none
  | k + 1, x0, x1, x5 => if x5 < (x0.length : Int) then (if 0 ≤ x5 then (if x5 < (x1.length : Int) then (if (!((((rd_T33 x0 x5).f0).toList) == (((rd_T33 x1 x5).f0).toList)) || (!(((rd_T33 x0 x5).f1) == ((rd_T33 x1 x5).f1)) || (!(((rd_T33 x0 x5).f2) == ((rd_T33 x1 x5).f2)) || (!(((rd_T33 x0 x5).f3) == ((rd_T33 x1 x5).f3)) || (!((((rd_T33 x0 x5).f4).toList) == (((rd_T33 x1 x5).f4).toList))))))) = true then (some false) else (hamperref21_Same.l0 k x0 x1 (wrap64 (x5 + 1)))) else (none)) else (none)) else (some true)
def hamperref21_Same.f (k : Nat) (l0 : List (S33)) (l1 : List (S33)) : Option (Bool) := if (l0.length : Int) = (l1.length : Int) then (hamperref21_Same.l0 k l0 l1 0) else (some false)
end Go.Proofs.YtbeibmdccjgcmaaDoor.PQu
namespace Go.Proofs.YtbeibmdccjgcmaaDoor.PQu
open Go.RowKit Go.Proofs.YtbeibmdccjgcmaaDoorW.PrintWords Go.Proofs.YtbeibmdccjgcmaaDoorW.PrintLast Go.Proofs.YtbeibmdccjgcmaaDoorW.PrintMore
attribute [local go_sem] max2_int min2_int max_two min_two max_three min_three max_four min_four   -- for this text's walks alone
set_option linter.unusedVariables false
set_option linter.unusedSimpArgs false

attribute [local go_sem high] eqA33
/-! ### api_Meta_32: function 32 -/
def api_Meta_32.l0 : Nat → List (S33) → List (S33) → Int → Int → Option (Bool)
  | 0, _, _, _, _ => none
  | k + 1, x0, x1, x12, x13 => if x13 < x12 then (if 0 ≤ x13 then (if x13 < (x0.length : Int) then (if x13 < (x1.length : Int) then (if (!((((rd_T33 x0 x13).f0).toList) == (((rd_T33 x1 x13).f0).toList)) || (!(((rd_T33 x0 x13).f1) == ((rd_T33 x1 x13).f1)) || (!(((rd_T33 x0 x13).f2) == ((rd_T33 x1 x13).f2)) || (!(((rd_T33 x0 x13).f3) == ((rd_T33 x1 x13).f3)) || (!((((rd_T33 x0 x13).f4).toList) == (((rd_T33 x1 x13).f4).toList))))))) = true then (some false) else (api_Meta_32.l0 k x0 x1 x12 (wrap64 (x13 + 1)))) else (none)) else (none)) else (none)) else (some true)
def api_Meta_32.f (k : Nat) (l0 : List (S33)) (l1 : List (S33)) : Option (Bool) := if (l0.length : Int) = (l1.length : Int) then (api_Meta_32.l0 k l0 l1 (l0.length : Int) 0) else (some false)
theorem api_Meta_32.mono_l : ∀ k, (∀ y0 y1 y2 y3, LeO (api_Meta_32.l0 k y0 y1 y2 y3) (api_Meta_32.l0 (k + 1) y0 y1 y2 y3))
  | 0 => fun _ _ _ _ r h => by simp [api_Meta_32.l0] at h
  | k + 1 => by
    have ih0 := api_Meta_32.mono_l k
    · intro y0 y1 y2 y3
      unfold api_Meta_32.l0
      repeat' first
      | (with_reducible exact ih0 _ _ _ _)
      | (with_reducible exact LeO.refl _)
      | (with_reducible exact LeO.none _)
      | (with_reducible refine LeO.ite ?_ ?_)
      | (with_reducible refine LeO.bind ?_ (fun _ => ?_))
      | exact ih0 _ _ _ _
      | exact LeO.none _
      | refine LeO.ite ?_ ?_
      | refine LeO.bind ?_ (fun _ => ?_)
theorem api_Meta_32.mono : ∀ a0 a1 k, LeO (api_Meta_32.f k a0 a1) (api_Meta_32.f (k + 1) a0 a1) := by
  intro a0 a1 k
  have ih0 := api_Meta_32.mono_l k
  unfold api_Meta_32.f
  repeat' first
      | (with_reducible exact ih0 _ _ _ _)
      | (with_reducible exact LeO.refl _)
      | (with_reducible exact LeO.none _)
      | (with_reducible refine LeO.ite ?_ ?_)
      | (with_reducible refine LeO.bind ?_ (fun _ => ?_))
      | exact ih0 _ _ _ _
      | exact LeO.none _
      | refine LeO.ite ?_ ?_
      | refine LeO.bind ?_ (fun _ => ?_)
set_option maxHeartbeats 8000000 in
set_option maxRecDepth 100000 in
theorem api_Meta_32.calls (k : Nat) (A0 : Option Addr) (c0 : Nat) (l0 : List (S33)) (A1 : Option Addr) (c1 : Nat) (l1 : List (S33)) (r : Bool) (w : World) (hr0 : Kd.C k33 w A0 l0.length l0) (hc0 : l0.length ≤ c0) (hr1 : Kd.C k33 w A1 l1.length l1) (hc1 : l1.length ≤ c1) (h : api_Meta_32.f k l0 l1 = some r) :
    Calls Tryd.prog 32 #[.slice A0 l0.length c0, .slice A1 l1.length c1] w fun e w' => e = .returned (.bool r) ∧ Drawn0 w w' := by
  have hu33 := Tryd.underlying33
  have HR0 := Aside0.mk hr0
  have HC0 := Aside0.mk hc0
  clear hr0 hc0
  have HR1 := Aside0.mk hr1
  have HC1 := Aside0.mk hc1
  clear hr1 hc1
  have H : (if (l0.length : Int) = (l1.length : Int) then (api_Meta_32.l0 k l0 l1 (l0.length : Int) 0) else (some false)) = some r := h
  clear h
  by_cases c3 : (l0.length : Int) = (l1.length : Int)
  · rw [if_pos c3] at H
    have c3b0 : ((l0.length : Int) == (l1.length : Int)) = true := beq_iff_eq.mpr c3
    have c3b1 : ((l0.length : Int) != (l1.length : Int)) = false := bne_eq_false_iff_eq.mpr c3
    have c3b2 : (l0.length == l1.length) = true := by first | simpa using c3 | (simp at c3 ⊢; omega)
    clear c3
    have H' := Aside0.mk H
    clear H
    go_enter Tryd.func32, Tryd.ntmps32
    go_wp2
    repeat (go_quiet (fail); try go_wp2)
    go_loopg [13] k (fun kq v13 w' => ∃ (x13_1 : Int), v13 = .int .i64 x13_1 ∧ Aside0 (api_Meta_32.l0 kq l0 l1 (l0.length : Int) x13_1 = some r) ∧ Aside0 (kq ≤ k) ∧ Drawn0 w w')
    case atStart => exact ⟨(0), (by first | rfl | (simp; done) | (simp [*]; done)), H', ⟨Nat.le_refl _⟩, by repeat (first | exact Drawn0.refl _ | apply Drawn0.step)⟩
    case round =>
      clear H'
      try clear c1
      try clear p2
      try clear c3
      try clear c3b0
      try clear c3b1
      try clear c3b2
      obtain ⟨x13_1, rfl, HA, HK1, ⟨m1, rfl⟩⟩ := hrel
      cases gk with
      | zero => exact absurd HA.out (by simp [api_Meta_32.l0])
      | succ k1 =>
        have H := HA.out
        clear HA
        simp only [api_Meta_32.l0] at H
        by_cases c4 : x13_1 < (l0.length : Int)
        · rw [if_pos c4] at H
          have c4b0 : decide (x13_1 < (l0.length : Int)) = true := decide_eq_true c4
          clear c4
          by_cases c5 : 0 ≤ x13_1
          · rw [if_pos c5] at H
            have c5b0 : decide (0 ≤ x13_1) = true := decide_eq_true c5
            clear c5
            by_cases c6 : x13_1 < (l0.length : Int)
            · rw [if_pos c6] at H
              have c6b0 : decide (x13_1 < (l0.length : Int)) = true := decide_eq_true c6
              clear c6
              by_cases c7 : x13_1 < (l1.length : Int)
              · rw [if_pos c7] at H
                have c7b0 : decide (x13_1 < (l1.length : Int)) = true := decide_eq_true c7
                clear c7
                by_cases c8 : (!((((rd_T33 l0 x13_1).f0).toList) == (((rd_T33 l1 x13_1).f0).toList)) || (!(((rd_T33 l0 x13_1).f1) == ((rd_T33 l1 x13_1).f1)) || (!(((rd_T33 l0 x13_1).f2) == ((rd_T33 l1 x13_1).f2)) || (!(((rd_T33 l0 x13_1).f3) == ((rd_T33 l1 x13_1).f3)) || (!((((rd_T33 l0 x13_1).f4).toList) == (((rd_T33 l1 x13_1).f4).toList))))))) = true
                · rw [if_pos c8] at H
                  have c8b0 : (!((((rd_T33 l0 x13_1).f0).toList) == (((rd_T33 l1 x13_1).f0).toList)) || (!(((rd_T33 l0 x13_1).f1) == ((rd_T33 l1 x13_1).f1)) || (!(((rd_T33 l0 x13_1).f2) == ((rd_T33 l1 x13_1).f2)) || (!(((rd_T33 l0 x13_1).f3) == ((rd_T33 l1 x13_1).f3)) || (!((((rd_T33 l0 x13_1).f4).toList) == (((rd_T33 l1 x13_1).f4).toList))))))) = true := c8
                  clear c8
                  obtain rfl := Option.some.inj H
                  have p208 : 0 ≤ (x13_1 : Int) := of_decide_eq_true (by first | (with_reducible assumption) | assumption)
                  have q208 : x13_1 < (l0.length : Int) := of_decide_eq_true (by first | (with_reducible assumption) | assumption)
                  obtain ⟨ad208, e208, hx208_0, hx208_1, hx208_2, hx208_3, hx208_4⟩ := at_T33 HR0.out x13_1 p208 q208
                  cases e208
                  replace p208 := eq_true p208
                  replace q208 := eq_true q208
                  have p209 : 0 ≤ (x13_1 : Int) := of_decide_eq_true (by first | (with_reducible assumption) | assumption)
                  have q209 : x13_1 < (l1.length : Int) := of_decide_eq_true (by first | (with_reducible assumption) | assumption)
                  obtain ⟨ad209, e209, hx209_0, hx209_1, hx209_2, hx209_3, hx209_4⟩ := at_T33 HR1.out x13_1 p209 q209
                  cases e209
                  replace p209 := eq_true p209
                  replace q209 := eq_true q209
                  go_wp2
                  repeat (go_quiet (fail); try go_wp2)
                  go_ret
                  exact ⟨by first | rfl | (simp; done) | (simp [*]; done), by repeat (first | exact Drawn0.refl _ | apply Drawn0.step)⟩
                · rw [if_neg c8] at H
                  have c8b0 : (!((((rd_T33 l0 x13_1).f0).toList) == (((rd_T33 l1 x13_1).f0).toList)) || (!(((rd_T33 l0 x13_1).f1) == ((rd_T33 l1 x13_1).f1)) || (!(((rd_T33 l0 x13_1).f2) == ((rd_T33 l1 x13_1).f2)) || (!(((rd_T33 l0 x13_1).f3) == ((rd_T33 l1 x13_1).f3)) || (!((((rd_T33 l0 x13_1).f4).toList) == (((rd_T33 l1 x13_1).f4).toList))))))) = false := by simpa using c8
                  clear c8
                  have H' := Aside0.mk H
                  clear H
                  have p208 : 0 ≤ (x13_1 : Int) := of_decide_eq_true (by first | (with_reducible assumption) | assumption)
                  have q208 : x13_1 < (l0.length : Int) := of_decide_eq_true (by first | (with_reducible assumption) | assumption)
                  obtain ⟨ad208, e208, hx208_0, hx208_1, hx208_2, hx208_3, hx208_4⟩ := at_T33 HR0.out x13_1 p208 q208
                  cases e208
                  replace p208 := eq_true p208
                  replace q208 := eq_true q208
                  have p209 : 0 ≤ (x13_1 : Int) := of_decide_eq_true (by first | (with_reducible assumption) | assumption)
                  have q209 : x13_1 < (l1.length : Int) := of_decide_eq_true (by first | (with_reducible assumption) | assumption)
                  obtain ⟨ad209, e209, hx209_0, hx209_1, hx209_2, hx209_3, hx209_4⟩ := at_T33 HR1.out x13_1 p209 q209
                  cases e209
                  replace p209 := eq_true p209
                  replace q209 := eq_true q209
                  go_wp2
                  repeat (go_quiet (fail); try go_wp2)
                  go_roundg k1
                  case measure => have := HK1.out; omega
                  case rel => exact ⟨(wrap64 (x13_1 + 1)), (by first | rfl | (simp; done) | (simp [*]; done)), H', ⟨by have := HK1.out; omega⟩, by repeat (first | exact Drawn0.refl _ | apply Drawn0.step)⟩
              · rw [if_neg c7] at H
                exact absurd H (by simp)
            · rw [if_neg c6] at H
              exact absurd H (by simp)
          · rw [if_neg c5] at H
            exact absurd H (by simp)
        · rw [if_neg c4] at H
          have c4b0 : decide (x13_1 < (l0.length : Int)) = false := decide_eq_false c4
          clear c4
          obtain rfl := Option.some.inj H
          go_wp2
          repeat (go_quiet (fail); try go_wp2)
          go_ret
          exact ⟨by first | rfl | (simp; done) | (simp [*]; done), by repeat (first | exact Drawn0.refl _ | apply Drawn0.step)⟩
  · rw [if_neg c3] at H
    have c3b0 : ((l0.length : Int) == (l1.length : Int)) = false := beq_eq_false_iff_ne.mpr c3
    have c3b1 : ((l0.length : Int) != (l1.length : Int)) = true := bne_iff_ne.mpr c3
    have c3b2 : (l0.length == l1.length) = false := by first | simpa using c3 | (simp at c3 ⊢; omega)
    obtain rfl := Option.some.inj H
    go_enter Tryd.func32, Tryd.ntmps32
    go_wp2
    repeat (go_quiet (fail); try go_wp2)
    go_ret
    exact ⟨by first | rfl | (simp; done) | (simp [*]; done), by repeat (first | exact Drawn0.refl _ | apply Drawn0.step)⟩

end Go.Proofs.YtbeibmdccjgcmaaDoor.PQu
namespace Go.Proofs.YtbeibmdccjgcmaaDoor.PQu
open Go.RowKit Go.Proofs.YtbeibmdccjgcmaaDoorW.PrintWords Go.Proofs.YtbeibmdccjgcmaaDoorW.PrintLast Go.Proofs.YtbeibmdccjgcmaaDoorW.PrintMore
attribute [local go_sem] max2_int min2_int max_two min_two max_three min_three max_four min_four   -- for this text's walks alone
set_option linter.unusedVariables false
set_option linter.unusedSimpArgs false

/-! ### quick_Same: function 14 -/
def quick_Same.f (k : Nat) (l0 : List (S33)) (l1 : List (S33)) : Option (Bool) := (api_Meta_32.f k l0 l1).bind fun t210 => (some t210)
theorem quick_Same.mono : ∀ a0 a1 k, LeO (quick_Same.f k a0 a1) (quick_Same.f (k + 1) a0 a1) := by
  intro a0 a1 k
  unfold quick_Same.f
  repeat' first
      | (with_reducible exact api_Meta_32.mono _ _ _)
      | (with_reducible exact LeO.refl _)
      | (with_reducible exact LeO.none _)
      | (with_reducible refine LeO.ite ?_ ?_)
      | (with_reducible refine LeO.bind ?_ (fun _ => ?_))
      | exact api_Meta_32.mono _ _ _
      | exact LeO.none _
      | refine LeO.ite ?_ ?_
      | refine LeO.bind ?_ (fun _ => ?_)
set_option maxHeartbeats 8000000 in
set_option maxRecDepth 100000 in
theorem quick_Same.calls (k : Nat) (A0 : Option Addr) (c0 : Nat) (l0 : List (S33)) (A1 : Option Addr) (c1 : Nat) (l1 : List (S33)) (r : Bool) (w : World) (hr0 : Kd.C k33 w A0 l0.length l0) (hc0 : l0.length ≤ c0) (hr1 : Kd.C k33 w A1 l1.length l1) (hc1 : l1.length ≤ c1) (h : quick_Same.f k l0 l1 = some r) :
    Calls Tryd.prog 14 #[.slice A0 l0.length c0, .slice A1 l1.length c1] w fun e w' => e = .returned (.bool r) ∧ Drawn0 w w' := by
  have HR0 := Aside0.mk hr0
  have HC0 := Aside0.mk hc0
  clear hr0 hc0
  have HR1 := Aside0.mk hr1
  have HC1 := Aside0.mk hc1
  clear hr1 hc1
  have H : ((api_Meta_32.f k l0 l1).bind fun t210 => (some t210)) = some r := h
  clear h
  replace H := Option.bind_eq_some_iff.mp H
  obtain ⟨t210, A30, H⟩ := H
  replace H : (some t210) = some r := H
  have A3 := Aside0.mk A30
  clear A30
  obtain rfl := Option.some.inj H
  go_enter Tryd.func14, Tryd.ntmps14
  go_wp2_with (first | ((with_reducible refine gate_callee (f := 32) rfl ?_); refine goesL_ (some 7) rfl rfl Tryd.func32 (by kernel_rfl) rfl #[.slice A0 l0.length c0, .slice A1 l1.length c1] rfl (by (try simp only [List.map_toArray, List.map_cons, List.map_nil]); first | done | rfl | (simp only [List.length_drop, List.length_take]; rfl)) ?_; (with_reducible refine (api_Meta_32.calls k _ _ l0 _ _ l1 t210 _ ?side1 ?side2 ?side3 ?side4 A3.out).mono ?_); (case side1 => repeat (first | exact HR0.out | (with_reducible refine Kd.C_alloc ?_ _) | (with_reducible refine Kd.C_drewN ?_ _) | (with_reducible refine Kd.C_drew ?_))); (case side2 => exact HC0.out); (case side3 => repeat (first | exact HR1.out | (with_reducible refine Kd.C_alloc ?_ _) | (with_reducible refine Kd.C_drewN ?_ _) | (with_reducible refine Kd.C_drew ?_))); (case side4 => exact HC1.out); rintro e w' ⟨rfl, ⟨nd, rfl⟩⟩; refine ⟨_, rfl, ?_⟩))
  go_ret
  exact ⟨by first | rfl | (simp; done) | (simp [*]; done), by repeat (first | exact Drawn0.refl _ | apply Drawn0.step)⟩

end Go.Proofs.YtbeibmdccjgcmaaDoor.PQu
namespace Go.Proofs.YtbeibmdccjgcmaaDoor.PQu
open Go.RowKit Go.Lib Go.Proofs.YtbeibmdccjgcmaaDoorW.PrintWords Go.Proofs.YtbeibmdccjgcmaaDoorW.PrintLast Go.Proofs.YtbeibmdccjgcmaaDoorW.PrintMore
open Go.Maps Go.WideMaps
set_option linter.unusedVariables false
set_option linter.unusedSimpArgs false
abbrev MS := S33
/-- Sizes, all together. -/
def sumQ : List MS → Int
  | [] => 0
  | x :: l => x.f3 + sumQ l
def namesQ (l : List MS) : List ByteArray := l.map (·.f0)
/-- Is one twice among them? -/
def dupQ : List ByteArray → Bool
  | [] => false
  | x :: l => l.any (fun y => y.data.toList == x.data.toList) || dupQ l
theorem data_inj {a b : ByteArray} : a.data.toList = b.data.toList ↔ a = b := ⟨fun h => ByteArray.ext (Array.toList_inj.1 h), fun h => by rw [h]⟩
theorem dupQ_iff : ∀ l : List ByteArray, dupQ l = false ↔ l.Nodup
  | [] => by simp [dupQ]
  | x :: l => by
    rw [dupQ, Bool.or_eq_false_iff, dupQ_iff l, List.nodup_cons, List.any_eq_false]
    refine and_congr_left fun _ => ⟨fun h hm => h x hm (by simp), fun h y hy => ?_⟩
    rw [beq_iff_eq, data_inj]
    intro e
    subst e
    exact h hy
/-- What together tells. -/
def togQ (l : List MS) : Int := if dupQ (namesQ l) = false then (if 64 < l.length ∨ 32768 < sumQ l then 40 else 0) else 6
theorem sumQ_snoc (l : List MS) (x : MS) : sumQ (l ++ [x]) = sumQ l + x.f3 := by
  induction l with
  | nil => simp [sumQ]
  | cons y l ih => rw [List.cons_append, sumQ, sumQ, ih]; omega
theorem lawS : Keyed Tryd.prog 9 := string_keyed Tryd.underlying9
theorem zeroI (w : World) : (zeroValue 3).run Tryd.prog w = .ok (.int .i64 0) w := by kernel_rfl
open Classical in
/-- What the map tells of the first names. -/
def MD (names : List ByteArray) (D : DataW Unit) : Prop := IsMap D ∧ ∀ t : ByteArray, D.atKey (.string t.data.toList) (.lit (.int .i64 0)) = .lit (.int .i64 (if t ∈ names then 1 else 0))
theorem key_inj {a b : ByteArray} (h : (Lit.string a.data.toList) = .string b.data.toList) : a = b := by
  injection h with h
  apply ByteArray.ext
  exact Array.toList_inj.1 h
theorem MD.nil : MD [] (.map []) := ⟨⟨[], rfl⟩, fun t => by rw [if_neg List.not_mem_nil]; rfl⟩
theorem MD.step {names : List ByteArray} {D : DataW Unit} (h : MD names D) (s : ByteArray) : MD (names ++ [s]) (D.put (.string s.data.toList) (.lit (.int .i64 1))) := by
  refine ⟨h.1.put _ _, fun t => ?_⟩
  by_cases ht : t = s
  · subst ht
    rw [atKey_put_same h.1 (by trivial), if_pos (by simp)]
  · rw [atKey_put_other (fun e => ht (key_inj e)), h.2 t]
    congr 2
    by_cases hm : t ∈ names
    · rw [if_pos hm, if_pos (by simp [hm])]
    · rw [if_neg hm, if_neg (by simp [hm, ht])]
/-- Behind k of them. -/
structure TS (l : List MS) (k : Nat) (tot e : Int) : Prop where
  t0 : 0 ≤ tot
  t1 : tot ≤ 32768
  ev : e = 0 ∨ e = 40
  fine : e = 0 → tot = sumQ (l.take k) ∧ (k = 0 ∨ l.length ≤ 64)
  bad : e = 40 → 64 < l.length ∨ 32768 < sumQ (l.take k)
  nod : (namesQ (l.take k)).Nodup

theorem TS.start (l : List MS) : TS l 0 0 0 := ⟨Int.le_refl _, by decide, .inl rfl, fun _ => ⟨rfl, .inl rfl⟩, fun h => absurd h (by decide), List.nodup_nil⟩
/-- The element at k. -/
theorem take_at (l : List MS) (k : Nat) (h : k < l.length) : l.take (k + 1) = l.take k ++ [rd_T33 l (k : Int)] := by
  rw [List.take_add_one]
  congr 1
  unfold rd_T33
  rw [Int.toNat_natCast, List.getD_eq_getElem?_getD, List.getElem?_eq_getElem h]
  rfl
theorem rd_mem (l : List MS) (k : Nat) (h : k < l.length) : rd_T33 l (k : Int) ∈ l := by
  unfold rd_T33
  rw [Int.toNat_natCast, List.getD_eq_getElem?_getD, List.getElem?_eq_getElem h]
  exact List.getElem_mem h
theorem names_snoc (l : List MS) (x : MS) : namesQ (l ++ [x]) = namesQ l ++ [x.f0] := by simp [namesQ]
/-- The round's end. -/
theorem TS.step {l : List MS} {k : Nat} {tot e : Int} (h : TS l k tot e) (hk : k < l.length) (hn : (rd_T33 l (k : Int)).f0 ∉ namesQ (l.take k)) (h0 : 0 ≤ (rd_T33 l (k : Int)).f3) (h1 : (rd_T33 l (k : Int)).f3 ≤ 32768) :
    (32768 < tot + (rd_T33 l (k : Int)).f3 ∨ 64 < l.length → TS l (k + 1) 0 40) ∧ (¬ 32768 < tot + (rd_T33 l (k : Int)).f3 → ¬ 64 < l.length → TS l (k + 1) (tot + (rd_T33 l (k : Int)).f3) e) := by
  have et := take_at l k hk
  have es : sumQ (l.take (k + 1)) = sumQ (l.take k) + (rd_T33 l (k : Int)).f3 := by rw [et, sumQ_snoc]
  have en : (namesQ (l.take (k + 1))).Nodup := by
    rw [et, names_snoc, List.nodup_append]
    refine ⟨h.nod, by simp, fun a ha b hb e2 => ?_⟩
    rw [List.mem_singleton] at hb
    subst hb
    subst e2
    exact hn ha
  obtain ⟨t0, t1, ev, fine, bad, nod⟩ := h
  refine ⟨fun hc => ⟨Int.le_refl _, by decide, .inr rfl, fun h => absurd h (by decide), fun _ => ?_, en⟩, fun hc1 hc2 => ⟨by omega, by omega, ev, fun he => ?_, fun he => ?_, en⟩⟩
  · rcases hc with hc | hc
    · rcases ev with he | he
      · have := (fine he).1
        right
        omega
      · rcases bad he with b | b
        · exact .inl b
        · right
          omega
    · exact .inl hc
  · have := (fine he).1
    exact ⟨by omega, .inr (by omega)⟩
  · rcases bad he with b | b
    · exact .inl b
    · right
      omega
theorem TS.done {l : List MS} {tot e : Int} (h : TS l l.length tot e) : e = togQ l := by
  obtain ⟨t0, t1, ev, fine, bad, nod⟩ := h
  rw [List.take_length] at fine bad nod
  unfold togQ
  rw [if_pos ((dupQ_iff _).2 nod)]
  rcases ev with he | he
  · obtain ⟨f1, f2⟩ := fine he
    rw [if_neg]
    · exact he
    · rintro (h | h)
      · rcases f2 with f2 | f2 <;> omega
      · omega
  · rw [if_pos (bad he)]
    exact he
theorem togQ_twice {l : List MS} {k : Nat} (hk : k < l.length) (h : (rd_T33 l (k : Int)).f0 ∈ namesQ (l.take k)) : togQ l = 6 := by
  unfold togQ
  refine if_neg fun hn => ?_
  rw [dupQ_iff] at hn
  have e : l = l.take (k + 1) ++ l.drop (k + 1) := (List.take_append_drop _ _).symm
  rw [take_at l k hk] at e
  have h2 : (namesQ (l.take k ++ [rd_T33 l (k : Int)])).Nodup := by
    rw [e] at hn
    unfold namesQ at hn ⊢
    rw [List.map_append, List.nodup_append] at hn
    exact hn.1
  rw [names_snoc, List.nodup_append] at h2
  exact h2.2.2 _ h _ (List.mem_singleton_self _) rfl
/-- The map, and what lay. -/
structure TM (w W : World) (B n : Nat) (names : List ByteArray) : Prop where
  own : ∃ D : DataW Unit, W.ownsMap Tryd.prog 9 (plainElem Tryd.prog 3) B n D ∧ MD names D
  bel : Below w.heap.size w W
  ge : w.heap.size ≤ B
theorem TM.turn {w W W1 : World} {B n : Nat} {names : List ByteArray} (h : TM w W B n names) (hb : Below W.heap.size W W1) : TM w W1 B n names := by
  obtain ⟨⟨D, ⟨es, clock, hk, h1, h2, h3⟩, hd⟩, hbel, hge⟩ := h
  have hlt : B < W.heap.size := (Array.getElem?_eq_some_iff.1 hk).1
  exact ⟨⟨D, ⟨es, clock, (hb.block B hlt).trans hk, h1, h2, h3⟩, hd⟩, hbel.trans (hb.mono hbel.size), hge⟩
theorem TM.alloc {w W : World} {B n : Nat} {names : List ByteArray} (h : TM w W B n names) (o : Obj) : TM w (W.alloc o) B n names := h.turn (below_alloc (Below.refl _ _) o)
open Classical in
set_option maxHeartbeats 1000000 in
set_option maxRecDepth 100000 in
theorem together_calls (A : Option Addr) (c : Nat) (l : List MS) (w : World) (hr : Kd.C k33 w A l.length l) (hn : l.length ≤ 1000000) (hsz : ∀ x ∈ l, 0 ≤ x.f3 ∧ x.f3 ≤ 32768) (hnm : ∀ x ∈ l, x.f0.size ≤ 255) :
    Calls Tryd.prog 27 #[.slice A l.length c] w fun e w' => e = .returned (.int .i64 (togQ l)) ∧ Below w.heap.size w w' := by
  have HR := Aside0.mk hr
  have HSZ := Aside0.mk hsz
  have HNM := Aside0.mk hnm
  clear hr hsz hnm
  have hmm := @run_makeMap Tryd.prog
  go_enter Tryd.func27, Tryd.ntmps27
  go_wp2_with fail
  have H0 := Aside0.mk (show TM w (w.alloc (.map #[] 0)) w.heap.size 0 [] from ⟨⟨_, World.ownsMap_made _ _ _ _, MD.nil⟩, below_alloc (Below.refl _ w) _, Nat.le_refl _⟩)
  obtain ⟨B, hB⟩ : ∃ B, B = w.heap.size := ⟨_, rfl⟩
  rw [← hB] at H0 ⊢
  have HB := Aside0.mk hB
  clear hB hmm
  go_loopg [4, 5, 11] l.length (fun kq v4 v5 v11 wr => ∃ (k : Nat) (tot e : Int), k + kq = l.length ∧ v4 = .int .i64 tot ∧ v5 = .int .i64 e ∧ v11 = .int .i64 (k : Int) ∧ Aside0 (TS l k tot e) ∧ Aside0 (TM w wr B k (namesQ (l.take k))))
  case atStart => exact ⟨0, 0, 0, by omega, rfl, rfl, rfl, ⟨TS.start l⟩, H0⟩
  case round =>
    obtain ⟨k, tot, e, hk, rfl, rfl, rfl, HT, HM⟩ := hrel
    clear H0
    by_cases hlt : k < l.length
    · have d1 : decide ((k : Int) < (l.length : Int)) = true := decide_eq_true (by omega)
      have hmem := rd_mem l k hlt
      obtain ⟨ad, ea, hc0, hc1, hc2, hc3, hc4⟩ := at_T33 HR.out (k : Int) (by omega) (by omega)
      cases ea
      have hstep := HT.out.step hlt
      have htw := togQ_twice (l := l) hlt
      have htk := take_at l k hlt
      obtain ⟨x, hx⟩ : ∃ x, x = rd_T33 l (k : Int) := ⟨_, rfl⟩
      rw [← hx] at hmem hc0 hc1 hc2 hc3 hc4 hstep htw htk
      clear hx
      rw [Int.toNat_natCast] at hc0 hc1 hc2 hc3 hc4
      obtain ⟨s0, s1⟩ := HSZ.out x hmem
      have hn0 := HNM.out x hmem
      obtain ⟨nm, mo, ti, sz, su⟩ := x
      dsimp only at hc0 hc1 hc2 hc3 hc4 s0 s1 hn0 hstep htw htk
      replace hc0 := (HM.out.bel.cell (World.block_lt_of_cell? w _ hc0)).trans hc0
      replace hc1 := (HM.out.bel.cell (World.block_lt_of_cell? w _ hc1)).trans hc1
      replace hc2 := (HM.out.bel.cell (World.block_lt_of_cell? w _ hc2)).trans hc2
      replace hc3 := (HM.out.bel.cell (World.block_lt_of_cell? w _ hc3)).trans hc3
      replace hc4 := (HM.out.bel.cell (World.block_lt_of_cell? w _ hc4)).trans hc4
      have HST := Aside0.mk hstep
      have HTW := Aside0.mk htw
      have HTK := Aside0.mk htk
      clear hstep htw htk hmem
      go_upto_region 7 with fail
      have hg := blk_new wr (.cells #[.string nm, .int .i64 mo, .int .i64 ti, .int .i64 sz, .string su] 33)
      have HM1 := Aside0.mk (HM.out.alloc (.cells #[.string nm, .int .i64 mo, .int .i64 ti, .int .i64 sz, .string su] 33))
      have hge := HM.out.bel.size
      clear hc0 hc1 hc2 hc3 hc4 HM
      generalize wr.alloc (.cells #[.string nm, .int .i64 mo, .int .i64 ti, .int .i64 sz, .string su] 33) = W1 at hg HM1 ⊢
      obtain ⟨g, hgg⟩ : ∃ g, g = wr.heap.size := ⟨_, rfl⟩
      rw [← hgg] at hg hge ⊢
      clear hgg
      have c0 : W1.cell? ⟨g, 0, none⟩ = some (.string nm) := (blk_cell hg 0).trans rfl
      obtain ⟨D, hown, hmd⟩ := HM1.out.own
      have hkey := keyOf_string_mk (P := Tryd.prog) (k := 9) Tryd.underlying9 (s := nm) (Nat.le_trans hn0 (by decide))
      obtain ⟨c1, hrun, hat, _⟩ := hown.lookup_int lawS Tryd.underlying66 Tryd.underlying3 (zeroI _) hkey
      have HMD := Aside0.mk hmd
      clear hmd
      have HG := Aside0.mk hg
      clear hg
      have hc1 := (HMD.out.2 nm).symm.trans hat
      go_upto_region 8 with (at_mapUpdate; refine wpList_mapUpdate_own _ rfl _ _ _ 66 rfl 9 3 lawS Tryd.underlying66 _ B k _ rfl hown (by unfold maxLen; omega) _ _ _ rfl rfl hkey _ [] (plainElem_int Tryd.underlying3 (wrap64_wf _)) ?_; intro W2 hown2 hg2)
      have hb2 : Below w.heap.size w W2 := HM1.out.bel.trans ⟨hg2.os, hg2.tape, hg2.output, hg2.size, fun i hi => hg2.block i (Nat.lt_of_lt_of_le hi HM1.out.bel.size) (fun e => by injection e with e; have := HM1.out.ge; omega)⟩
      have hgB : g ≠ B := by
        obtain ⟨es, clock, hk2, _⟩ := hown
        intro e
        have := HG.out
        rw [e, hk2] at this
        cases this
      have hgl : g < W1.heap.size := blk_lt HG.out
      have hG2 : W2.heap[g]? = some (.cells #[.string nm, .int .i64 mo, .int .i64 ti, .int .i64 sz, .string su] 33 (0, 0)) := (hg2.block g hgl (fun e => hgB (Option.some.inj e))).trans HG.out
      obtain ⟨c2, hrun2, hat2, _⟩ := hown2.lookup_int lawS Tryd.underlying66 Tryd.underlying3 (zeroI _) hkey
      have hc2 : wrap64 (c1 + 1) = c2 := by
        rw [atKey_put_same HMD.out.1 (by trivial)] at hat2
        injection hat2 with h
        injection h
      have hc1' : (if nm ∈ namesQ (List.take k l) then 1 else 0) = c1 := by
        injection hc1 with h
        injection h
      have d0 : W2.cell? ⟨g, 0, none⟩ = some (.string nm) := (blk_cell hG2 0).trans rfl
      have d3 : W2.cell? ⟨g, 3, none⟩ = some (.int .i64 sz) := (blk_cell hG2 3).trans rfl
      clear hat2 hc1 hat hrun c0
      have HO2 := Aside0.mk hown2
      have HB2 := Aside0.mk hb2
      have HG2 := Aside0.mk hG2
      clear hown2 hb2 hG2 hown hg2 HG HM1 hkey
      by_cases hm : nm ∈ namesQ (List.take k l)
      · rw [if_pos hm] at hc1'
        obtain rfl := hc1'
        have e2 : c2 = 2 := by rw [← hc2]; unfold wrap64; decide
        subst e2
        have e6 := HTW.out hm
        clear hc2
        go_wp2_with fail
        go_ret
        refine ⟨?_, HB2.out⟩
        first
          | rfl
          | (rw [e6]; rfl)
      · rw [if_neg hm] at hc1'
        obtain rfl := hc1'
        have e2 : c2 = 1 := by rw [← hc2]; unfold wrap64; decide
        subst e2
        have hTM : TM w W2 B (k + 1) (namesQ (List.take (k + 1) l)) := by
          rw [HTK.out, names_snoc]
          have HO3 := HO2.out
          rw [show wrap64 (0 + 1) = 1 by unfold wrap64; decide] at HO3
          exact ⟨⟨_, HO3, HMD.out.step nm⟩, HB2.out, by rw [HB.out]; exact Nat.le_refl _⟩
        have HTM := Aside0.mk hTM
        obtain ⟨st1, st2⟩ := HST.out hm s0 s1
        have HT1 := Aside0.mk st1
        have HT2 := Aside0.mk st2
        have t0 := HT.out.t0
        have t1 := HT.out.t1
        have hmn : min sz 32769 = sz := by omega
        have hw : wrap64 (tot + sz) = tot + sz := by unfold wrap64; omega
        clear hc2 hTM HO2 HB2 HTW HTK st1 st2 HST
        by_cases hover : 32768 < tot + sz
        · have d2 : decide (32768 < tot + sz) = true := decide_eq_true hover
          go_wp2_with fail
          go_roundg (gk - 1)
          case measure => omega
          case rel => exact ⟨k + 1, 0, 40, by omega, rfl, rfl, by go_num, ⟨HT1.out (.inl hover)⟩, HTM⟩
        · have d2 : decide (32768 < tot + sz) = false := decide_eq_false hover
          by_cases hlong : 64 < l.length
          · have d3 : decide (64 < l.length) = true := decide_eq_true hlong
            go_wp2_with fail
            go_roundg (gk - 1)
            case measure => omega
            case rel => exact ⟨k + 1, 0, 40, by omega, rfl, rfl, by go_num, ⟨HT1.out (.inr hlong)⟩, HTM⟩
          · have d3 : decide (64 < l.length) = false := decide_eq_false hlong
            go_wp2_with fail
            go_roundg (gk - 1)
            case measure => omega
            case rel => exact ⟨k + 1, tot + sz, e, by omega, rfl, rfl, by go_num, ⟨HT2.out (by omega) hlong⟩, HTM⟩
    · have d1 : decide ((k : Int) < (l.length : Int)) = false := decide_eq_false (by omega)
      obtain rfl : k = l.length := by omega
      go_wp2_with fail
      go_ret
      have := HT.out.done
      subst this
      exact ⟨rfl, HM.out.bel⟩
end Go.Proofs.YtbeibmdccjgcmaaDoor.PQu
