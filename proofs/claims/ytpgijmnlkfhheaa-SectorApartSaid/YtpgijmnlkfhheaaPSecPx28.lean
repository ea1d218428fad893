-- Made by a program of this session (wip/tools/pp.py) out of the seat's translation; contracts of some functions are typed by hand.
import Derived.Test.YtpgijmnlkfhheaaPSecPx0
import Derived.Test.YtpgijmnlkfhheaaPSecPx20
import Derived.Test.YtpgijmnlkfhheaaPSecPx25
import Derived.Test.YtpgijmnlkfhheaaRr
import Derived.Test.YtpgijmnlkfhheaaSecEach
namespace Go.Proofs.Ytpgijmnlkfhheaa.PSecP
open Go.RowKit Go.Proofs.YtpgijmnlkfhheaaW.PrintWords Go.Proofs.YtpgijmnlkfhheaaW.PrintLast Go.Proofs.YtpgijmnlkfhheaaW.PrintMore
attribute [local go_sem] max2_int min2_int max_two min_two max_three min_three max_four min_four   -- for this text's walks alone
set_option linter.unusedVariables false
set_option linter.unusedSimpArgs false

/-! ### sector_Cut: function 11 -/
def sector_Cut.l0 : Nat → ByteArray → List ByteArray → List Int → Int → ByteArray → Int → Int → Int → Option (List ByteArray × List Int × Int)
  | 0, _, _, _, _, _, _, _, _ => none
  | k + 1, x1, x7, x8, x9, x140000, x140001, x140002, x140003 => if x9 < x140003 then (if (wrap64 ((wrap64 ((wrap64 (x9 * (wrap64 (x140002 + 8)))) + x140002)) + 8)) ≤ (x1.size : Int) then (if 0 ≤ (wrap64 (x9 * (wrap64 (x140002 + 8)))) then (if (wrap64 (x9 * (wrap64 (x140002 + 8)))) ≤ (wrap64 ((wrap64 (x9 * (wrap64 (x140002 + 8)))) + x140002)) then (if (wrap64 ((wrap64 (x9 * (wrap64 (x140002 + 8)))) + x140002)) ≤ (x1.size : Int) then ((sector_Volume_of.f x140000 x140001 x140002 x140003 x9 (x1.extract ((wrap64 (x9 * (wrap64 (x140002 + 8)))) : Int).toNat ((wrap64 ((wrap64 (x9 * (wrap64 (x140002 + 8)))) + x140002)) : Int).toNat)).bind fun bt141 => (if 0 ≤ (wrap64 ((wrap64 (x9 * (wrap64 (x140002 + 8)))) + x140002)) then (if (wrap64 ((wrap64 (x9 * (wrap64 (x140002 + 8)))) + x140002)) ≤ (wrap64 ((wrap64 ((wrap64 (x9 * (wrap64 (x140002 + 8)))) + x140002)) + 8)) then ((tag_Is.f k bt141.1 bt141.2.1 bt141.2.2.1 bt141.2.2.2 (x1.extract ((wrap64 ((wrap64 (x9 * (wrap64 (x140002 + 8)))) + x140002)) : Int).toNat ((wrap64 ((wrap64 ((wrap64 (x9 * (wrap64 (x140002 + 8)))) + x140002)) + 8)) : Int).toNat)).bind fun t145 => (if t145 = true then (if x7.length < 8796093022208 then (sector_Cut.l0 k x1 (x7 ++ [x1.extract ((wrap64 (x9 * (wrap64 (x140002 + 8)))) : Int).toNat ((wrap64 ((wrap64 (x9 * (wrap64 (x140002 + 8)))) + x140002)) : Int).toNat]) x8 (wrap64 (x9 + 1)) x140000 x140001 x140002 x140003) else (none)) else (if 0 ≤ x140002 then (if (x140002 : Int).toNat ≤ 281474976710656 then (if x7.length < 8796093022208 then (if x8.length < 17592186044416 then (sector_Cut.l0 k x1 (x7 ++ [strOfNums (List.replicate (x140002 : Int).toNat 0)]) (x8 ++ [x9]) (wrap64 (x9 + 1)) x140000 x140001 x140002 x140003) else (none)) else (none)) else (none)) else (none)))) else (none)) else (none))) else (none)) else (none)) else (none)) else (if 0 ≤ x140002 then (if (x140002 : Int).toNat ≤ 281474976710656 then (if x7.length < 8796093022208 then (if x8.length < 17592186044416 then (sector_Cut.l0 k x1 (x7 ++ [strOfNums (List.replicate (x140002 : Int).toNat 0)]) (x8 ++ [x9]) (wrap64 (x9 + 1)) x140000 x140001 x140002 x140003) else (none)) else (none)) else (none)) else (none))) else (some (x7, x8, 0))
def sector_Cut.f (k : Nat) (a0_0 : ByteArray) (a0_1 : Int) (a0_2 : Int) (a0_3 : Int) (a1 : ByteArray) : Option (List ByteArray × List Int × Int) := (sector_May.f a0_0 a0_1 a0_2 a0_3).bind fun t140 => (if t140 = true then (sector_Cut.l0 k a1 ([] : List ByteArray) ([] : List Int) 0 a0_0 a0_1 a0_2 a0_3) else (some (([] : List ByteArray), ([] : List Int), 1)))
theorem sector_Cut.mono_l : ∀ k, (∀ y0 y1 y2 y3 y4 y5 y6 y7, LeO (sector_Cut.l0 k y0 y1 y2 y3 y4 y5 y6 y7) (sector_Cut.l0 (k + 1) y0 y1 y2 y3 y4 y5 y6 y7))
  | 0 => fun _ _ _ _ _ _ _ _ r h => by simp [sector_Cut.l0] at h
  | k + 1 => by
    have ih0 := sector_Cut.mono_l k
    · intro y0 y1 y2 y3 y4 y5 y6 y7
      unfold sector_Cut.l0
      repeat' first
      | (with_reducible exact ih0 _ _ _ _ _ _ _ _)
      | (with_reducible exact tag_Is.mono _ _ _ _ _ _)
      | (with_reducible exact LeO.refl _)
      | (with_reducible exact LeO.none _)
      | (with_reducible refine LeO.ite ?_ ?_)
      | (with_reducible refine LeO.bind ?_ (fun _ => ?_))
      | exact ih0 _ _ _ _ _ _ _ _
      | exact tag_Is.mono _ _ _ _ _ _
      | exact LeO.none _
      | refine LeO.ite ?_ ?_
      | refine LeO.bind ?_ (fun _ => ?_)
theorem sector_Cut.mono : ∀ a0 a1 a2 a3 a4 k, LeO (sector_Cut.f k a0 a1 a2 a3 a4) (sector_Cut.f (k + 1) a0 a1 a2 a3 a4) := by
  intro a0 a1 a2 a3 a4 k
  have ih0 := sector_Cut.mono_l k
  unfold sector_Cut.f
  repeat' first
      | (with_reducible exact ih0 _ _ _ _ _ _ _ _)
      | (with_reducible exact tag_Is.mono _ _ _ _ _ _)
      | (with_reducible exact LeO.refl _)
      | (with_reducible exact LeO.none _)
      | (with_reducible refine LeO.ite ?_ ?_)
      | (with_reducible refine LeO.bind ?_ (fun _ => ?_))
      | exact ih0 _ _ _ _ _ _ _ _
      | exact tag_Is.mono _ _ _ _ _ _
      | exact LeO.none _
      | refine LeO.ite ?_ ?_
      | refine LeO.bind ?_ (fun _ => ?_)
def sector_Cut.T9 : Bool × List (List Nat × List Nat) := (true, [([], []), ([], []), ([1], [1]), ([0, 2], [0, 2]), ([3], [3]), ([], []), ([5], [5]), ([4, 6], [4, 6]), ([7], [7]), ([8], [8]), ([8], [8]), ([8], [8]), ([8], [8]), ([8], [8]), ([8], [8]), ([14, 8], [8, 14]), ([13, 15, 8], [8, 13, 15]), ([11, 12, 16, 8], [8, 11, 12, 16]), ([9, 10, 17, 8, 8], [8, 9, 10, 17]), ([8], [8]), ([8], [8]), ([8], [8]), ([21, 8], [8, 21]), ([20, 22, 8], [8, 20, 22]), ([8], [8]), ([8], [8]), ([25, 8], [8, 25]), ([24, 26, 8], [8, 24, 26]), ([27, 8], [8, 27]), ([19, 23, 28, 8], [8, 19, 23, 28]), ([18, 29, 8], [8, 18, 29]), ([8, 30], [8, 30])])
def sector_Cut.B9 : List Nat := [0, 0, 2, 7, 15, 0, 32, 127, 255, 511, 511, 511, 511, 511, 511, 16895, 57855, 129535, 262143, 511, 511, 511, 2097663, 7340543, 511, 511, 33554943, 117441023, 251658751, 536347135, 1073741823, 2147483647]
open Go.Shelf
attribute [local go_sem] Oper.semAt_some
def zerosB (z : Nat) : ByteArray := strOfNums (List.replicate z 0)
/-- A round, its numbers named. -/
def cutR (k : Nat) (x1 : ByteArray) (x7 : List ByteArray) (x8 : List Int) (x9 : Int) (id : ByteArray) (n z R FROM FZ EE NX : Int) : Option (List ByteArray × List Int × Int) :=
  if x9 < R then (if EE ≤ (x1.size : Int) then (if 0 ≤ FROM then (if FROM ≤ FZ then (if FZ ≤ (x1.size : Int) then ((sector_Volume_of.f id n z R x9 (x1.extract (FROM : Int).toNat (FZ : Int).toNat)).bind fun bt141 => (if 0 ≤ FZ then (if FZ ≤ EE then ((tag_Is.f k bt141.1 bt141.2.1 bt141.2.2.1 bt141.2.2.2 (x1.extract (FZ : Int).toNat (EE : Int).toNat)).bind fun t145 => (if t145 = true then (if x7.length < 8796093022208 then (sector_Cut.l0 k x1 (x7 ++ [x1.extract (FROM : Int).toNat (FZ : Int).toNat]) x8 NX id n z R) else (none)) else (if 0 ≤ z then (if (z : Int).toNat ≤ 281474976710656 then (if x7.length < 8796093022208 then (if x8.length < 17592186044416 then (sector_Cut.l0 k x1 (x7 ++ [strOfNums (List.replicate (z : Int).toNat 0)]) (x8 ++ [x9]) NX id n z R) else (none)) else (none)) else (none)) else (none)))) else (none)) else (none))) else (none)) else (none)) else (none)) else (if 0 ≤ z then (if (z : Int).toNat ≤ 281474976710656 then (if x7.length < 8796093022208 then (if x8.length < 17592186044416 then (sector_Cut.l0 k x1 (x7 ++ [strOfNums (List.replicate (z : Int).toNat 0)]) (x8 ++ [x9]) NX id n z R) else (none)) else (none)) else (none)) else (none))) else (some (x7, x8, 0))
theorem cut_shape (k : Nat) (x1 : ByteArray) (x7 : List ByteArray) (x8 : List Int) (x9 : Int) (id : ByteArray) (n z R : Int) : sector_Cut.l0 (k + 1) x1 x7 x8 x9 id n z R = cutR k x1 x7 x8 x9 id n z R (wrap64 (x9 * (wrap64 (z + 8)))) (wrap64 ((wrap64 (x9 * (wrap64 (z + 8)))) + z)) (wrap64 ((wrap64 ((wrap64 (x9 * (wrap64 (z + 8)))) + z)) + 8)) (wrap64 (x9 + 1)) := by
  rw [sector_Cut.l0, cutR]
set_option maxHeartbeats 1000000 in
/-- One round: a sector that is right, one that is there and torn, one that is not there. -/
theorem cut_step {kq : Nat} {a1 : ByteArray} {rows : List ByteArray} {torn : List Int} {i z R : Nat} {id : ByteArray} {n : Int} {r : List ByteArray × List Int × Int} (hi : i < R) (hR : R ≤ 96) (hz : z ≤ 512) (h : sector_Cut.l0 kq a1 rows torn (i : Int) id n (z : Int) (R : Int) = some r) :
    ∃ kq', ((i + 1) * (z + 8) ≤ a1.size ∧ tag_Is.f kq' id n (i : Int) (a1.extract (i * (z + 8)) (i * (z + 8) + z)) (a1.extract (i * (z + 8) + z) ((i + 1) * (z + 8))) = some true ∧ sector_Cut.l0 kq' a1 (rows ++ [a1.extract (i * (z + 8)) (i * (z + 8) + z)]) torn ((i + 1 : Nat) : Int) id n (z : Int) (R : Int) = some r)
      ∨ ((i + 1) * (z + 8) ≤ a1.size ∧ tag_Is.f kq' id n (i : Int) (a1.extract (i * (z + 8)) (i * (z + 8) + z)) (a1.extract (i * (z + 8) + z) ((i + 1) * (z + 8))) = some false ∧ sector_Cut.l0 kq' a1 (rows ++ [zerosB z]) (torn ++ [(i : Int)]) ((i + 1 : Nat) : Int) id n (z : Int) (R : Int) = some r)
      ∨ (¬ (i + 1) * (z + 8) ≤ a1.size ∧ sector_Cut.l0 kq' a1 (rows ++ [zerosB z]) (torn ++ [(i : Int)]) ((i + 1 : Nat) : Int) id n (z : Int) (R : Int) = some r) := by
  cases kq with
  | zero => exact absurd h (by simp [sector_Cut.l0])
  | succ k =>
    refine ⟨k, ?_⟩
    have hltI : (i : Int) < (R : Int) := by clear h; omega
    obtain ⟨F, hF⟩ : ∃ F, i * (z + 8) = F := ⟨_, rfl⟩
    have hE : (i + 1) * (z + 8) = F + z + 8 := by rw [Nat.succ_mul, hF]; omega
    have hFb : F ≤ 96 * 520 := by rw [← hF]; exact Nat.mul_le_mul (by omega) (by omega)
    have w1 : wrap64 ((z : Int) + 8) = ((z + 8 : Nat) : Int) := by rw [w64_id (by omega) (by omega)]; omega
    have w2 : wrap64 ((i : Int) * ((z + 8 : Nat) : Int)) = (F : Int) := by rw [← Int.natCast_mul, hF, w64_id (by omega) (by omega)]
    have w3 : wrap64 ((F : Int) + (z : Int)) = ((F + z : Nat) : Int) := by rw [w64_id (by omega) (by omega)]; omega
    have w4 : wrap64 (((F + z : Nat) : Int) + 8) = ((F + z + 8 : Nat) : Int) := by rw [w64_id (by omega) (by omega)]; omega
    have w5 : wrap64 ((i : Int) + 1) = ((i + 1 : Nat) : Int) := by rw [w64_id (by omega) (by omega)]; omega
    rw [hE, hF]
    rw [cut_shape, w1, w2, w3, w4, w5] at h
    clear w1 w2 w3 w4 w5
    rw [cutR, if_pos hltI, Int.toNat_natCast, Int.toNat_natCast, Int.toNat_natCast, Int.toNat_natCast] at h
    have zer : ∀ (h : (if 0 ≤ (z : Int) then (if z ≤ 281474976710656 then (if rows.length < 8796093022208 then (if torn.length < 17592186044416 then (sector_Cut.l0 k a1 (rows ++ [strOfNums (List.replicate z 0)]) (torn ++ [(i : Int)]) ((i + 1 : Nat) : Int) id n (z : Int) (R : Int)) else none) else none) else none) else none) = some r), sector_Cut.l0 k a1 (rows ++ [zerosB z]) (torn ++ [(i : Int)]) ((i + 1 : Nat) : Int) id n (z : Int) (R : Int) = some r := by
      intro h
      rw [if_pos (by omega), if_pos (by omega)] at h
      by_cases c1 : rows.length < 8796093022208
      · rw [if_pos c1] at h
        by_cases c2 : torn.length < 17592186044416
        · rw [if_pos c2] at h; exact h
        · rw [if_neg c2] at h; cases h
      · rw [if_neg c1] at h; cases h
    by_cases hle : F + z + 8 ≤ a1.size
    · rw [if_pos (show ((F + z + 8 : Nat) : Int) ≤ (a1.size : Int) by omega), if_pos (show (0 : Int) ≤ (F : Int) by omega), if_pos (show (F : Int) ≤ ((F + z : Nat) : Int) by omega), if_pos (show ((F + z : Nat) : Int) ≤ (a1.size : Int) by omega)] at h
      obtain ⟨⟨x1, x2, x3, x4⟩, hv, h⟩ := Option.bind_eq_some_iff.mp h
      have hv' : (id, n, (i : Int), a1.extract F (F + z)) = (x1, x2, x3, x4) := Option.some.inj hv
      simp only [Prod.mk.injEq] at hv'
      obtain ⟨rfl, rfl, rfl, rfl⟩ := hv'
      rw [if_pos (show (0 : Int) ≤ ((F + z : Nat) : Int) by omega), if_pos (show ((F + z : Nat) : Int) ≤ ((F + z + 8 : Nat) : Int) by omega)] at h
      obtain ⟨t, hIs, h⟩ := Option.bind_eq_some_iff.mp h
      cases t with
      | true =>
        rw [if_pos rfl] at h
        by_cases c1 : rows.length < 8796093022208
        · rw [if_pos c1] at h
          exact .inl ⟨hle, hIs, h⟩
        · rw [if_neg c1] at h; cases h
      | false =>
        rw [if_neg (by decide)] at h
        exact .inr (.inl ⟨hle, hIs, zer h⟩)
    · rw [if_neg (show ¬ ((F + z + 8 : Nat) : Int) ≤ (a1.size : Int) by omega)] at h
      exact .inr (.inr ⟨hle, zer h⟩)
/-- What the range's rounds leave: the volume in its box, the two rows in theirs. -/
structure EnvC (B0 : Nat) (w W : World) (b2 b4 b5 : Nat) (id : ByteArray) (n sz R : Int) (rows : List ByteArray) (torn : List Int) : Prop where
  vol : W.heap[b2]? = some (.cells #[.string id, .int .i64 n, .int .i64 sz, .int .i64 R] 23 (0, 0))
  ra : ∃ v, Boxed W b4 24 v ∧ W.ownsRow B0 9 1 v rows.length (rows.map Value.string)
  ta : ∃ v, Boxed W b5 30 v ∧ W.ownsRow B0 3 1 v torn.length (torn.map (Value.int .i64))
  bel : Below w.heap.size w W
theorem reps_str (W : World) (base : Nat) (ok : Nat → Prop) : ∀ (ys acc : List ByteArray), Reps (Kd.string.M W base ok) 1 acc (acc.map Value.string) → Reps (Kd.string.M W base ok) 1 (acc ++ ys) ((acc ++ ys).map Value.string)
  | [], acc, h => by rw [List.append_nil]; exact h
  | y :: ys, acc, h => by
    have h2 := reps_str W base ok ys (acc ++ [y]) (by rw [List.map_append]; exact h.snoc rfl rfl)
    rwa [List.append_assoc, List.singleton_append] at h2
theorem reps_int (W : World) (base : Nat) (ok : Nat → Prop) : ∀ (ys acc : List Int), Reps ((Kd.int .i64).M W base ok) 1 acc (acc.map (Value.int .i64)) → Reps ((Kd.int .i64).M W base ok) 1 (acc ++ ys) ((acc ++ ys).map (Value.int .i64))
  | [], acc, h => by rw [List.append_nil]; exact h
  | y :: ys, acc, h => by
    have h2 := reps_int W base ok ys (acc ++ [y]) (by rw [List.map_append]; exact h.snoc rfl rfl)
    rwa [List.append_assoc, List.singleton_append] at h2
theorem results_cct {fn : Func} {p q u : Tmp} {ty tz : TypeId} (h : fn.results = #[.cell p ty, .cell q tz, .tmp u]) (tmps : Array Value) (P : Program) (w : World) :
    (results fn tmps).run P w =
      ((asAddr (tmps.getD p undef)).run P w).andThen fun a w₁ => ((loadVar ty a).run P w₁).andThen fun v w₂ => ((asAddr (tmps.getD q undef)).run P w₂).andThen fun b w₃ => ((loadVar tz b).run P w₃).andThen fun v2 w₄ => .ok (.tuple #[v, v2, tmps.getD u undef]) w₄ := by
  simp only [results, h]
  simp [Sem.run_bind, Result.andThen]
theorem EnvC.kept {B0 : Nat} {w W W1 : World} {b2 b4 b5 : Nat} {id : ByteArray} {n sz R : Int} {rows : List ByteArray} {torn : List Int} (h : EnvC B0 w W b2 b4 b5 id n sz R rows torn) {row : Option Nat} (hg : W.grownBy W1 row) (hr : ∀ r, row = some r → w.heap.size ≤ r ∧ ∃ o : Obj, W.heap[r]? = some o ∧ o.isCells = false) : EnvC B0 w W1 b2 b4 b5 id n sz R rows torn := by
  obtain ⟨h1, ⟨v, h2, h3⟩, ⟨u, h4, h5⟩, h6⟩ := h
  have far : ∀ (B : Nat) (cs : Array Value) (t : TypeId) (fr : Nat × Nat), W.heap[B]? = some (.cells cs t fr) → some B ≠ row := by
    intro B cs t fr hb e
    obtain ⟨_, o, ho, hc⟩ := hr B e.symm
    rw [hb] at ho
    cases ho
    cases hc
  have own : ∀ {e : TypeId} {v : Value} {k : Nat} {xs : List Value}, W.ownsRow B0 e 1 v k xs → v.ownBlock = none ∨ v.ownBlock ≠ row := by
    intro e v k xs hx
    rcases hx.2 with ⟨rfl, _⟩ | ⟨g, cap, cur, rfl, _, hgb, _⟩
    · exact .inl rfl
    · exact .inr (far g _ _ _ hgb)
  refine ⟨(hg.block b2 (blk_lt h1) (far _ _ _ _ h1)).trans h1, ⟨v, h2.kept hg (far _ _ _ _ h2), h3.kept hg (own h3)⟩, ⟨u, h4.kept hg (far _ _ _ _ h4), h5.kept hg (own h5)⟩, h6.grown hg h6.size fun r e => (hr r e).1⟩
theorem EnvC.below {B0 : Nat} {w W W1 : World} {b2 b4 b5 : Nat} {id : ByteArray} {n sz R : Int} {rows : List ByteArray} {torn : List Int} (h : EnvC B0 w W b2 b4 b5 id n sz R rows torn) (hb : Below W.heap.size W W1) : EnvC B0 w W1 b2 b4 b5 id n sz R rows torn :=
  h.kept (row := none) ⟨hb.os, hb.tape, hb.output, hb.size, fun k hk _ => hb.block k hk⟩ fun r e => by cases e
theorem toList_ne {s : ByteArray} (h : s.size ≠ 0) : s.toList ≠ [] := by
  intro e
  rw [ByteArray.toList_eq] at e
  exact h (by have e2 := congrArg List.length e; rw [Array.length_toList] at e2; exact e2)
theorem ownsRow_lower {W : World} {B B' : Nat} {e : TypeId} {s n : Nat} {v : Value} {xs : List Value} (h : W.ownsRow B e s v n xs) (hle : B' ≤ B) : W.ownsRow B' e s v n xs :=
  ⟨h.1, h.2.imp id fun ⟨g, cap, cur, h1, h2, r⟩ => ⟨g, cap, cur, h1, Nat.le_trans hle h2, r⟩⟩
theorem own_apart {W : World} {B B' : Nat} {e e' : TypeId} {s s' n n' : Nat} {v u : Value} {xs ys : List Value} (h : W.ownsRow B e s v n xs) (k : W.ownsRow B' e' s' u n' ys) (hne : e ≠ e') : u.ownBlock = none ∨ u.ownBlock ≠ v.ownBlock := by
  cases hu : u.ownBlock with
  | none => exact .inl rfl
  | some g =>
    refine .inr fun e1 => ?_
    obtain ⟨c1, k1⟩ := own_typed k g hu
    obtain ⟨c2, k2⟩ := own_typed h g e1.symm
    rw [k1] at k2
    cases k2
    exact hne rfl
theorem stays_below {B : Nat} {b : Nat → Prop} {W W' : World} (h : Below W.heap.size W W') (hb : ∀ k, b k → k < W.heap.size) : Rb.Stays B b W W' :=
  ⟨h.size, fun k o _ ho _ => (h.block k (Array.getElem?_eq_some_iff.1 ho).1).trans ho, fun k hk => h.block k (hb k hk)⟩
/-- An element appended to one row, the new value stored in its box: the other row, its box and a block of another type lie as they lay. -/
theorem app_step {w W w1 : World} {B0 bx bo bv n m g cap : Nat} {tx ex tO eo tv : TypeId} {v u : Value} {xs ys : List Value} {y : Value} {cs : Array Value}
    (hx : Boxed W bx tx v) (hr : W.ownsRow B0 ex 1 v n xs) (ho : Boxed W bo tO u) (hs : W.ownsRow B0 eo 1 u m ys) (hv : W.heap[bv]? = some (.cells cs tv (0, 0))) (hb : Below w.heap.size w W)
    (t1 : tx ≠ ex) (t2 : tO ≠ ex) (t3 : ex ≠ eo) (t4 : tv ≠ ex) (t5 : tx ≠ eo) (n1 : bo ≠ bx) (n2 : bv ≠ bx) (hB0 : w.heap.size ≤ B0) (hBx : w.heap.size ≤ bx)
    (hown : w1.ownsRow B0 ex 1 (.slice (some ⟨g, 0, none⟩) (n + 1) cap) (n + 1) (xs ++ [y])) (hgrow : (W.alloc (.cells #[y] ex)).grownBy w1 v.ownBlock) :
    Boxed w1 bx tx v ∧ Boxed (w1.setCell ⟨bx, 0, none⟩ (.slice (some ⟨g, 0, none⟩) (n + 1) cap)) bx tx (.slice (some ⟨g, 0, none⟩) (n + 1) cap) ∧ (w1.setCell ⟨bx, 0, none⟩ (.slice (some ⟨g, 0, none⟩) (n + 1) cap)).ownsRow B0 ex 1 (.slice (some ⟨g, 0, none⟩) (n + 1) cap) (n + 1) (xs ++ [y]) ∧
    Boxed (w1.setCell ⟨bx, 0, none⟩ (.slice (some ⟨g, 0, none⟩) (n + 1) cap)) bo tO u ∧ (w1.setCell ⟨bx, 0, none⟩ (.slice (some ⟨g, 0, none⟩) (n + 1) cap)).ownsRow B0 eo 1 u m ys ∧ (w1.setCell ⟨bx, 0, none⟩ (.slice (some ⟨g, 0, none⟩) (n + 1) cap)).heap[bv]? = some (.cells cs tv (0, 0)) ∧
    Below w.heap.size w (w1.setCell ⟨bx, 0, none⟩ (.slice (some ⟨g, 0, none⟩) (n + 1) cap)) ∧ ∀ (B1 : Nat) (b : Nat → Prop), (∀ k, b k → k < W.heap.size ∧ k < B0 ∧ k ≠ bx) → bx < B1 → Rb.Stays B1 b W (w1.setCell ⟨bx, 0, none⟩ (.slice (some ⟨g, 0, none⟩) (n + 1) cap)) := by
  have hx1 : Boxed w1 bx tx v := (hx.alloc _).kept hgrow ((hx.alloc (.cells #[y] ex)).not_row t1 (hr.alloc _))
  have ho1 : Boxed w1 bo tO u := (ho.alloc _).kept hgrow ((ho.alloc (.cells #[y] ex)).not_row t2 (hr.alloc _))
  have hs1 := (hs.alloc (.cells #[y] ex)).kept hgrow (own_apart (hr.alloc (.cells #[y] ex)) (hs.alloc (.cells #[y] ex)) t3)
  have hva : (W.alloc (.cells #[y] ex)).heap[bv]? = some (.cells cs tv (0, 0)) := (Below.heap_alloc _ _ _ (blk_lt hv)).trans hv
  have hv1 : w1.heap[bv]? = some (.cells cs tv (0, 0)) := (hgrow.block bv (blk_lt hva) fun e => by
    obtain ⟨c, hc⟩ := own_typed (hr.alloc (.cells #[y] ex)) bv e.symm
    rw [hva] at hc
    cases hc
    exact t4 rfl).trans hva
  have hsz : W.heap.size ≤ w1.heap.size := by have := hgrow.size; rw [World.size_alloc] at this; omega
  have hvb : ∀ j, v.ownBlock = some j → B0 ≤ j := fun j e => (hr.lt j e).1
  refine ⟨hx1, hx1.set _, hown.kept (grownBy_setCell' _ _ _) (.inr (hx1.not_row t1 hown).symm), ho1.other n1 _, hs1.kept (grownBy_setCell' _ _ _) (.inr (hx1.not_row t5 hs1).symm), ?_, ?_, ?_⟩
  · exact (Below.heap_setCell _ _ _ bv n2).trans hv1
  · exact ((hb.alloc hb.size (.cells #[y] ex)).grown hgrow (by rw [World.size_alloc]; have := hb.size; omega) fun j e => Nat.le_trans hB0 (hvb j e)).setCell (p := ⟨bx, 0, none⟩) hBx _
  · intro B1 b hb1 hB1
    refine ((Rb.Stays.grown (World.grownBy_alloc W _ none) (fun k hk => (hb1 k hk).1) (by simp)).trans (Rb.Stays.grown hgrow (fun k hk => by rw [World.size_alloc]; have := (hb1 k hk).1; omega) fun r e => ⟨fun q => ?_, .inr ?_⟩)).trans (Rb.Stays.grown (grownBy_setCell' _ _ _) (fun k hk => Nat.lt_of_lt_of_le (hb1 k hk).1 hsz) fun r e => ?_)
    · have := hvb r e
      have := (hb1 r q).2.1
      omega
    · obtain ⟨c, hc⟩ := own_typed (hr.alloc (.cells #[y] ex)) r e
      exact ⟨_, hc, rfl⟩
    · cases e
      exact ⟨fun q => (hb1 _ q).2.2 rfl, .inl hB1⟩
theorem grown_below {W W' : World} (h : Below W.heap.size W W') : W.grownBy W' none := ⟨h.os, h.tape, h.output, h.size, fun k hk _ => h.block k hk⟩
theorem below_grown {W W' : World} (h : W.grownBy W' none) : Below W.heap.size W W' := (Below.refl _ W).grown h (Nat.le_refl _) fun j e => by cases e
theorem carry {w W W' : World} {B0 b2 b4 b5 m n : Nat} {o : Obj} {v u : Value} {xs ys : List Value} {t4 e4 t5 e5 : TypeId} (hb : Below W.heap.size W W')
    (h : W.heap[b2]? = some o ∧ Boxed W b4 t4 v ∧ W.ownsRow B0 e4 1 v n xs ∧ Boxed W b5 t5 u ∧ W.ownsRow B0 e5 1 u m ys ∧ Below w.heap.size w W) :
    W'.heap[b2]? = some o ∧ Boxed W' b4 t4 v ∧ W'.ownsRow B0 e4 1 v n xs ∧ Boxed W' b5 t5 u ∧ W'.ownsRow B0 e5 1 u m ys ∧ Below w.heap.size w W' :=
  have hg := grown_below hb
  ⟨(hb.block _ (Array.getElem?_eq_some_iff.1 h.1).1).trans h.1, h.2.1.kept hg (by simp), h.2.2.1.kept hg (by cases v.ownBlock <;> simp), h.2.2.2.1.kept hg (by simp), h.2.2.2.2.1.kept hg (by cases u.ownBlock <;> simp), h.2.2.2.2.2.trans (hb.mono h.2.2.2.2.2.size)⟩
theorem zeros_row (z : Nat) : (madeCells (Value.int .u8 0).cells (z * 1)).toList = nums .u8 (List.replicate z 0) := by
  unfold madeCells nums
  simp
  rw [List.eq_replicate_iff]
  refine ⟨by simp, fun b hb => ?_⟩
  obtain ⟨x, _, rfl⟩ := List.mem_map.1 hb
  have e : (Value.int .u8 0).cells = #[Value.int .u8 0] := rfl
  rw [e]
  have e2 : x % (#[Value.int .u8 0] : Array Value).size = 0 := by simp [Nat.mod_one]
  rw [e2]
  rfl
theorem wide_fn (k : Nat) : Fence.wide.fn k = True := eq_true trivial
set_option maxHeartbeats 4000000 in
set_option maxRecDepth 100000 in
theorem sector_Cut.calls (k : Nat) (a0_0 : ByteArray) (a0_1 : Int) (a0_2 : Int) (a0_3 : Int) (a1 : ByteArray) (r1 : List ByteArray) (r2 : List Int) (r3 : Int) (w : World) (h : sector_Cut.f k a0_0 a0_1 a0_2 a0_3 a1 = some (r1, r2, r3)) :
    Calls Try.prog 11 #[.agg #[.string a0_0, .int .i64 a0_1, .int .i64 a0_2, .int .i64 a0_3], .string a1] w fun e w' => ∃ v0_ v1_ : Value, e = .returned (.tuple #[v0_, v1_, .int .i64 r3]) ∧ Kd.R Kd.string 9 w' w.heap.size (fun _ => True) v0_ r1 ∧ Kd.R (Kd.int .i64) 3 w' w.heap.size (fun _ => True) v1_ r2 ∧ Below w.heap.size w w' := by
  obtain ⟨t140, hM, H⟩ := Option.bind_eq_some_iff.mp h
  have HM := Aside0.mk hM
  clear h hM
  have hvol0 : (((w.alloc (.cells #[.string a0_0, .int .i64 a0_1, .int .i64 a0_2, .int .i64 a0_3] 23)).alloc (.cells #[.slice none 0 0] 24)).alloc (.cells #[.slice none 0 0] 30)).heap[w.heap.size]? = some (.cells #[.string a0_0, .int .i64 a0_1, .int .i64 a0_2, .int .i64 a0_3] 23 (0, 0)) :=
    (Below.heap_alloc _ _ _ (by simp; omega)).trans ((Below.heap_alloc _ _ _ (by simp)).trans (blk_new w _))
  have ENV : ∀ w1, Below (((w.alloc (.cells #[.string a0_0, .int .i64 a0_1, .int .i64 a0_2, .int .i64 a0_3] 23)).alloc (.cells #[.slice none 0 0] 24)).alloc (.cells #[.slice none 0 0] 30)).heap.size (((w.alloc (.cells #[.string a0_0, .int .i64 a0_1, .int .i64 a0_2, .int .i64 a0_3] 23)).alloc (.cells #[.slice none 0 0] 24)).alloc (.cells #[.slice none 0 0] 30)) w1 → ∀ B0, EnvC B0 w w1 w.heap.size (w.heap.size + 1) (w.heap.size + 1 + 1) a0_0 a0_1 a0_2 a0_3 [] [] := by
    intro w1 hb B0
    have s3 : (((w.alloc (.cells #[.string a0_0, .int .i64 a0_1, .int .i64 a0_2, .int .i64 a0_3] 23)).alloc (.cells #[.slice none 0 0] 24)).alloc (.cells #[.slice none 0 0] 30)).heap.size = w.heap.size + 3 := by simp
    have hB0 : Below w.heap.size w (((w.alloc (.cells #[.string a0_0, .int .i64 a0_1, .int .i64 a0_2, .int .i64 a0_3] 23)).alloc (.cells #[.slice none 0 0] 24)).alloc (.cells #[.slice none 0 0] 30)) := (((Below.refl _ w).alloc (Nat.le_refl _) _).alloc (by simp) _).alloc (by simp; omega) _
    have b4 := (Boxed.new (w.alloc (.cells #[.string a0_0, .int .i64 a0_1, .int .i64 a0_2, .int .i64 a0_3] 23)) 24 (.slice none 0 0)).alloc (.cells #[.slice none 0 0] 30)
    have b5 := Boxed.new ((w.alloc (.cells #[.string a0_0, .int .i64 a0_1, .int .i64 a0_2, .int .i64 a0_3] 23)).alloc (.cells #[.slice none 0 0] 24)) 30 (.slice none 0 0)
    simp only [World.size_alloc] at b4 b5
    exact (EnvC.below (B0 := B0) (w := w) (b2 := w.heap.size) (b4 := w.heap.size + 1) (b5 := w.heap.size + 1 + 1) (id := a0_0) (n := a0_1) (sz := a0_2) (R := a0_3) (rows := []) (torn := []) ⟨hvol0, ⟨_, b4, World.ownsRow_nil _ _ _ _⟩, ⟨_, b5, World.ownsRow_nil _ _ _ _⟩, hB0⟩ hb)
  cases t140 with
  | false =>
    rw [if_neg (by decide)] at H
    simp only [Option.some.injEq, Prod.mk.injEq] at H
    obtain ⟨rfl, rfl, rfl⟩ := H
    go_enter Try.func11, Try.ntmps11
    go_wp2_with fail
    refine (sector_May.calls _ _ _ _ false _ HM.out).mono ?_
    rintro e w1 ⟨rfl, hb⟩
    obtain ⟨_, ⟨v, q1, _⟩, ⟨u, q3, _⟩, q5⟩ := ENV w1 hb 0
    have hn : w.heap.size + 1 ≠ w.heap.size + 1 + 1 := by omega
    have hs1 := q1.lt
    have e1 := q1.set (.slice none 0 0)
    have e2 := (q3.other (by omega) (.slice none 0 0) : Boxed (w1.setCell ⟨w.heap.size + 1, 0, none⟩ (.slice none 0 0)) (w.heap.size + 1 + 1) _ _)
    have c4 := q1.cell
    have f4 := q1.frozen
    have c5 := e2.cell
    have f5 := e2.frozen
    have e3 := e2.set (.slice none 0 0)
    have e4 := e1.other (by omega : w.heap.size + 1 ≠ w.heap.size + 1 + 1) (.slice none 0 0)
    have c6 := e4.cell
    have c7 := e3.cell
    have HB1 := Aside0.mk q5
    clear hb q1 q3 q5 ENV hvol0 e1 e2 e3 e4
    go_wp2_with fail
    refine bodyPost_ret (v := .tuple #[.slice none 0 0, .slice none 0 0, .int .i64 1]) (by rw [results_cct rfl]; go_simp) rfl ⟨_, _, rfl, Kd.R_nil _ _ _ _ _, Kd.R_nil _ _ _ _ _, ?_⟩
    exact (HB1.out.setCell (p := ⟨w.heap.size + 1, 0, none⟩) (by show _ ≤ w.heap.size + 1; omega) _).setCell (p := ⟨w.heap.size + 1 + 1, 0, none⟩) (by show _ ≤ w.heap.size + 1 + 1; omega) _
  | true =>
    rw [if_pos rfl] at H
    refine (callsIn_wide (n := 3)).1 ?_
    refine callsIn_of_wp_marks Try.func11 rfl trivial ?_ rfl
    simp only [Try.ntmps11, List.size_toArray, List.length_cons, List.length_nil, Nat.reduceAdd, Nat.reduceSub, Array.replicate_succ, Array.replicate_zero, List.push_toArray, List.append_toArray, List.nil_append, List.cons_append]
    obtain ⟨y1, y2, y3, y4, y5, y6, y7⟩ := may_true HM.out
    obtain ⟨R, rfl⟩ : ∃ R : Nat, a0_3 = (R : Int) := ⟨a0_3.toNat, by omega⟩
    obtain ⟨z, rfl⟩ : ∃ z : Nat, a0_2 = (z : Int) := ⟨a0_2.toNat, by omega⟩
    have HL := Aside0.mk H
    clear H
    gi_wp2_with fail
    refine ⟨trivial, callsIn_wide.2 ((sector_May.calls _ _ _ _ true _ HM.out).mono ?_)⟩
    rintro e w1 ⟨rfl, hb⟩
    have E0 := Aside0.mk (ENV w1 hb (w1.heap.size + 3))
    have s4 : w.heap.size + 3 ≤ w1.heap.size := by have := hb.size; simp at this; omega
    clear hb hvol0 ENV
    have c0 : w1.cell? ⟨w.heap.size, 0, none⟩ = some (.string a0_0) := (blk_cell E0.out.vol 0).trans rfl
    have c1 : w1.cell? ⟨w.heap.size, 1, none⟩ = some (.int .i64 a0_1) := (blk_cell E0.out.vol 1).trans rfl
    have c2 : w1.cell? ⟨w.heap.size, 2, none⟩ = some (.int .i64 (z : Int)) := (blk_cell E0.out.vol 2).trans rfl
    have c3 : w1.cell? ⟨w.heap.size, 3, none⟩ = some (.int .i64 (R : Int)) := (blk_cell E0.out.vol 3).trans rfl
    gi_wp2_with fail
    refine ⟨trivial, callsIn_wide.2 ((sectors_calls _ _ _ _ _ _ (by omega) y5).mono ?_)⟩
    rintro e w2 ⟨rfl, rfl⟩
    gi_wp2_with fail
    obtain ⟨G, hG⟩ : ∃ G, w1.heap.size = G := ⟨_, rfl⟩
    have gv : (((w1.alloc (.cells #[.string a0_0, .int .i64 a0_1, .int .i64 (z : Int), .int .i64 (R : Int)] 23)).alloc (.cells #[.string a1] 9)).alloc (.cells #[.int .i64 ((z : Int) + 8)] 3)).heap[w1.heap.size]? = some (.cells #[.string a0_0, .int .i64 a0_1, .int .i64 (z : Int), .int .i64 (R : Int)] 23 (0, 0)) := (Below.heap_alloc _ _ _ (by simp; omega)).trans ((Below.heap_alloc _ _ _ (by simp)).trans (blk_new w1 _))
    have gs : (((w1.alloc (.cells #[.string a0_0, .int .i64 a0_1, .int .i64 (z : Int), .int .i64 (R : Int)] 23)).alloc (.cells #[.string a1] 9)).alloc (.cells #[.int .i64 ((z : Int) + 8)] 3)).heap[w1.heap.size + 1]? = some (.cells #[.string a1] 9 (0, 0)) := by
      have h := blk_new (w1.alloc (.cells #[.string a0_0, .int .i64 a0_1, .int .i64 (z : Int), .int .i64 (R : Int)] 23)) (.cells #[.string a1] 9)
      rw [World.size_alloc] at h
      exact (Below.heap_alloc _ _ _ (by simp)).trans h
    have go : (((w1.alloc (.cells #[.string a0_0, .int .i64 a0_1, .int .i64 (z : Int), .int .i64 (R : Int)] 23)).alloc (.cells #[.string a1] 9)).alloc (.cells #[.int .i64 ((z : Int) + 8)] 3)).heap[w1.heap.size + 1 + 1]? = some (.cells #[.int .i64 (((z + 8 : Nat)) : Int)] 3 (0, 0)) := by
      have h := blk_new ((w1.alloc (.cells #[.string a0_0, .int .i64 a0_1, .int .i64 (z : Int), .int .i64 (R : Int)] 23)).alloc (.cells #[.string a1] 9)) (.cells #[.int .i64 ((z : Int) + 8)] 3)
      rw [World.size_alloc, World.size_alloc] at h
      exact h
    have E2 := Aside0.mk (EnvC.below E0.out (below_alloc (below_alloc (below_alloc (Below.refl _ w1) (.cells #[.string a0_0, .int .i64 a0_1, .int .i64 (z : Int), .int .i64 (R : Int)] 23)) (.cells #[.string a1] 9)) (.cells #[.int .i64 ((z : Int) + 8)] 3)))
    rw [hG] at gv gs go s4 E2 ⊢
    generalize (((w1.alloc (.cells #[.string a0_0, .int .i64 a0_1, .int .i64 (z : Int), .int .i64 (R : Int)] 23)).alloc (.cells #[.string a1] 9)).alloc (.cells #[.int .i64 ((z : Int) + 8)] 3)) = W2 at gv gs go E2 ⊢
    clear E0 c0 c1 c2 c3 hG
    have hGW : G < W2.heap.size := blk_lt gv
    refine Rb.range_box rfl (by decide) (gf := 31) (lb := #[.pointer (some ⟨G, 0, none⟩), .pointer (some ⟨G + 1 + 1, 0, none⟩), .pointer (some ⟨G + 1, 0, none⟩)]) rfl trivial (enters_of Try.func31 (by kernel_rfl) rfl) (b := boxes G (G + 1 + 1) (G + 1)) ?hb
      (secs_tells 2 G (G + 1 + 1) (G + 1) a0_0 a0_1 (z : Int) R (z + 8) a1 W2 (by omega) (by omega) gv go gs) (fun _ => rfl)
      (fun pre W => ∃ (kq : Nat) (rows : List ByteArray) (torn : List Int), sector_Cut.l0 kq a1 rows torn (pre.length : Int) a0_0 a0_1 (z : Int) (R : Int) = some (r1, r2, r3) ∧ rows.length = pre.length ∧ torn.length ≤ pre.length ∧ EnvC (G + 3) w W w.heap.size (w.heap.size + 1) (w.heap.size + 1 + 1) a0_0 a0_1 (z : Int) (R : Int) rows torn)
      ?bears ⟨k, [], [], HL.out, rfl, Nat.le_refl _, E2.out⟩ (fun x a' W => a' = { tmps := #[.agg #[.string a0_0, .int .i64 a0_1, .int .i64 (z : Int), .int .i64 (R : Int)], .string a1, .pointer (some ⟨w.heap.size, 0, none⟩), undef, .pointer (some ⟨w.heap.size + 1, 0, none⟩), .pointer (some ⟨w.heap.size + 1 + 1, 0, none⟩), .int .i64 0, .int .i64 (x.1 : Int), .string x.2, .agg #[.string a0_0, .int .i64 a0_1, .int .i64 (z : Int), .int .i64 (R : Int)], .bool true, .bool false, .agg #[.string a0_0, .int .i64 a0_1, .int .i64 (z : Int), .int .i64 (R : Int)], .string a1, .func (.func 31) #[] #[.pointer (some ⟨G, 0, none⟩), .pointer (some ⟨G + 1 + 1, 0, none⟩), .pointer (some ⟨G + 1, 0, none⟩)], .int .i64 (x.1 : Int), .string x.2, undef, undef, undef, undef, undef, undef, undef, undef, undef, undef, undef, undef, undef, undef, undef, undef, undef, undef, undef, undef, undef, undef, undef, undef, undef, undef, undef, undef, undef, undef, undef, undef, undef, undef, undef, undef], defers := [] }) ?bearsA ?assign ?body ?done
    case hb =>
      rintro k (rfl | rfl | rfl)
      · exact blk_lt gv
      · exact blk_lt go
      · exact blk_lt gs
    case bears =>
      rintro pre X Y row ⟨kq, rows, torn, q1, q2, q3, q4⟩ hg hr
      exact ⟨kq, rows, torn, q1, q2, q3, q4.kept hg fun r e => ⟨by have := (hr r e).1; have := E2.out.bel.size; omega, (hr r e).2⟩⟩
    case bearsA =>
      rintro x a' _ X Y row h1 hg hr
      exact h1
    case assign =>
      rintro l pre x W K hI hbW hK
      gi_wp2_with fail
      exact hK _ _ (Rb.Stays.refl _ _ _) hI rfl
    case body =>
      rintro l pre x a' W ⟨kq, rows, torn, q1, q2, q3, q4⟩ rfl hN hbW
      obtain ⟨hlt, rfl⟩ := told_last hN
      obtain ⟨kq', hstep⟩ := cut_step hlt (by omega) (by omega) q1
      obtain ⟨i, hi⟩ : ∃ i, pre.length = i := ⟨_, rfl⟩
      have hx2 : (pre.length, secX (z + 8) a1 pre.length).2 = secX (z + 8) a1 i := by rw [← hi]
      obtain ⟨h1, ⟨v, h2, h3⟩, ⟨u, h4, h5⟩, h6⟩ := q4
      have c0 : W.cell? ⟨w.heap.size, 0, none⟩ = some (.string a0_0) := (blk_cell h1 0).trans rfl
      have c1 : W.cell? ⟨w.heap.size, 1, none⟩ = some (.int .i64 a0_1) := (blk_cell h1 1).trans rfl
      have c2 : W.cell? ⟨w.heap.size, 2, none⟩ = some (.int .i64 (z : Int)) := (blk_cell h1 2).trans rfl
      have c3 : W.cell? ⟨w.heap.size, 3, none⟩ = some (.int .i64 (R : Int)) := (blk_cell h1 3).trans rfl
      have HH := Aside0.mk (And.intro h1 (And.intro h2 (And.intro h3 (And.intro h4 (And.intro h5 h6)))))
      rw [hi] at hstep q2 q3
      have Q2 := Aside0.mk q2
      clear q2
      have HBW := Aside0.mk (show G + 3 ≤ W.heap.size from by have := hbW (G + 1 + 1) (.inr (.inl rfl)); omega)
      have HST := Aside0.mk hstep
      have hf1 := wide_fn 23
      have hf2 := wide_fn 13
      clear h1 h2 h3 h4 h5 h6 hstep hN HL HM gv gs go E2
      dsimp only
      rw [hi]
      rcases HST.out with ⟨s1, s2, s3⟩ | ⟨s1, s2, s3⟩ | ⟨s1, s3⟩
      · have hE : (i + 1) * (z + 8) = i * (z + 8) + z + 8 := by rw [Nat.succ_mul]; omega
        obtain ⟨X, hX⟩ : ∃ X, secX (z + 8) a1 i = X := ⟨_, rfl⟩
        obtain ⟨X0, hX0⟩ : ∃ X0, X.extract 0 z = X0 := ⟨_, rfl⟩
        obtain ⟨X1, hX1⟩ : ∃ X1, X.extract z X.size = X1 := ⟨_, rfl⟩
        have hXe : X = a1.extract (i * (z + 8)) (i * (z + 8) + z + 8) := by rw [← hX]; unfold secX; rw [if_pos s1, hE]
        have hXs : X.size = z + 8 := by rw [hXe, ByteArray.size_extract]; omega
        have e0 : a1.extract (i * (z + 8)) (i * (z + 8) + z) = X0 := by rw [← hX0, hXe, ByteArray.extract_extract]; congr 1; omega
        have e1 : a1.extract (i * (z + 8) + z) ((i + 1) * (z + 8)) = X1 := by rw [← hX1, hXs, hXe, ByteArray.extract_extract, hE]; congr 1; omega
        rw [e0, e1] at s2
        rw [e0] at s3
        rw [hX]
        have S2 := Aside0.mk s2
        have S3 := Aside0.mk s3
        have HXS := Aside0.mk hXs
        have b0 : (0 : Int) ≤ (z : Int) := by omega
        have b1 : (z : Int) ≤ (X.size : Int) := by omega
        have b2 : z ≤ X.size := by omega
        have hne1 : X.toList ≠ [] := toList_ne (by omega)
        have hne2 : (X.toList == ([] : List UInt8)) = false := beq_eq_false_iff_ne.mpr hne1
        have hne3 : (X.toList != ([] : List UInt8)) = true := bne_iff_ne.mpr hne1
        have HX0 := Aside0.mk hX0
        have HX1 := Aside0.mk hX1
        clear s1 s2 s3 HST e0 e1 hXe hE hX hXs
        have HLT := Aside0.mk (blk_lt HH.out.1)
        gi_wp2_with fail
        refine Rr.start_in (N := 16) (S := fun w' => w'.cell? ⟨w.heap.size, 0, none⟩ = some (.string a0_0) ∧ w'.cell? ⟨w.heap.size, 1, none⟩ = some (.int .i64 a0_1) ∧ w'.cell? ⟨w.heap.size, 2, none⟩ = some (.int .i64 (z : Int)) ∧ w'.cell? ⟨w.heap.size, 3, none⟩ = some (.int .i64 (R : Int))) (ds := []) #[false, false, false, false, false, false, false, false, false, false, false, false, false, false, false, false] (by kernel_rfl) (by kernel_rfl) rfl rfl ⟨c0, c1, c2, c3⟩ (fun hHeld => ?_)
        refine pure_ (i := 0) (N := some 17) (v := ?_) (a' := ?_) #[true, false, false, false, false, false, false, false, false, false, false, false, false, false, false, false] rfl rfl (by kernel_rfl) (fun _ _ _ h => h) (Or.inl ⟨by rfl, ?_⟩) ?_ ?_
        rotate_left
        · intro w'
          go_simp
          with_reducible rfl
        rotate_left
        · simp only [Act.put, List.setIfInBounds_toArray, List.set_cons_zero, List.set_cons_succ, i64_w, i32_w]
          rfl
        refine pure_ (i := 1) (N := some 18) (v := ?_) (a' := ?_) #[true, true, false, false, false, false, false, false, false, false, false, false, false, false, false, false] rfl rfl (by kernel_rfl) (fun _ _ _ h => h) (Or.inl ⟨by rfl, ?_⟩) ?_ ?_
        rotate_left
        · intro w'
          go_simp
          with_reducible rfl
        rotate_left
        · simp only [Act.put, List.setIfInBounds_toArray, List.set_cons_zero, List.set_cons_succ, i64_w, i32_w]
          rfl
        refine pure_ (i := 2) (N := some 19) (v := ?_) (a' := ?_) #[true, true, true, false, false, false, false, false, false, false, false, false, false, false, false, false] rfl rfl (by kernel_rfl) (fun _ _ _ h => h) (Or.inl ⟨by rfl, ?_⟩) ?_ ?_
        rotate_left
        · intro w'
          go_simp
          with_reducible rfl
        rotate_left
        · simp only [Act.put, List.setIfInBounds_toArray, List.set_cons_zero, List.set_cons_succ, i64_w, i32_w]
          rfl
        refine pure_ (i := 4) (N := some 21) (v := ?_) (a' := ?_) #[true, true, true, false, true, false, false, false, false, false, false, false, false, false, false, false] rfl rfl (by kernel_rfl) (fun _ _ _ h => h) (Or.inl ⟨by rfl, ?_⟩) ?_ ?_
        rotate_left
        · intro w'
          go_simp
          with_reducible rfl
        rotate_left
        · simp only [Act.put, List.setIfInBounds_toArray, List.set_cons_zero, List.set_cons_succ, i64_w, i32_w]
          rfl
        refine pure_ (i := 5) (N := some 22) (v := ?_) (a' := ?_) #[true, true, true, false, true, true, false, false, false, false, false, false, false, false, false, false] rfl rfl (by kernel_rfl) (fun _ _ _ h => h) (Or.inl ⟨by rfl, ?_⟩) ?_ ?_
        rotate_left
        · intro w'
          go_simp
          with_reducible rfl
        rotate_left
        · simp only [Act.put, List.setIfInBounds_toArray, List.set_cons_zero, List.set_cons_succ, i64_w, i32_w]
          rfl
        refine pure_ (i := 6) (N := some 23) (v := ?_) (a' := ?_) #[true, true, true, false, true, true, true, false, false, false, false, false, false, false, false, false] rfl rfl (by kernel_rfl) (fun _ _ _ h => h) (Or.inl ⟨by rfl, ?_⟩) ?_ ?_
        rotate_left
        · intro w'
          go_simp
          with_reducible rfl
        rotate_left
        · simp only [Act.put, List.setIfInBounds_toArray, List.set_cons_zero, List.set_cons_succ, i64_w, i32_w]
          rfl
        refine pure_ (i := 10) (N := some 27) (v := ?_) (a' := ?_) #[true, true, true, false, true, true, true, false, false, false, true, false, false, false, false, false] rfl rfl (by kernel_rfl) (fun _ _ _ h => h) (Or.inl ⟨by rfl, ?_⟩) ?_ ?_
        rotate_left
        · intro w'
          go_simp
          with_reducible rfl
        rotate_left
        · simp only [Act.put, List.setIfInBounds_toArray, List.set_cons_zero, List.set_cons_succ, i64_w, i32_w]
          rfl
        refine pure_ (i := 11) (N := some 28) (v := ?_) (a' := ?_) #[true, true, true, false, true, true, true, false, false, false, true, true, false, false, false, false] rfl rfl (by kernel_rfl) (fun _ _ _ h => h) (Or.inl ⟨by rfl, ?_⟩) ?_ ?_
        rotate_left
        · intro w'
          go_simp
          with_reducible rfl
        rotate_left
        · simp only [Act.put, List.setIfInBounds_toArray, List.set_cons_zero, List.set_cons_succ, i64_w, i32_w]
          rfl
        refine take_ (i := 3) (N := some 20) (v := ?_) (a' := ?_) #[true, true, true, true, true, true, true, false, false, false, true, true, false, false, false, false] rfl rfl (by kernel_rfl) (fun _ _ _ h => h) (Or.inl ⟨by rfl, ?_⟩) hHeld ?_ ?_
        rotate_left
        · rintro w' ⟨s0, s1, s2, s3⟩
          go_simp
          with_reducible rfl
        rotate_left
        · simp only [Act.put, List.setIfInBounds_toArray, List.set_cons_zero, List.set_cons_succ, i64_w, i32_w]
          rfl
        refine take_ (i := 7) (N := some 24) (v := ?_) (a' := ?_) #[true, true, true, true, true, true, true, true, false, false, true, true, false, false, false, false] rfl rfl (by kernel_rfl) (fun _ _ _ h => h) (Or.inl ⟨by rfl, ?_⟩) hHeld ?_ ?_
        rotate_left
        · rintro w' ⟨s0, s1, s2, s3⟩
          go_simp
          with_reducible rfl
        rotate_left
        · simp only [Act.put, List.setIfInBounds_toArray, List.set_cons_zero, List.set_cons_succ, i64_w, i32_w]
          rfl
        refine pure_ (i := 8) (N := some 25) (v := ?_) (a' := ?_) #[true, true, true, true, true, true, true, true, true, false, true, true, false, false, false, false] rfl rfl (by kernel_rfl) (fun _ _ _ h => h) (Or.inl ⟨by rfl, ?_⟩) ?_ ?_
        rotate_left
        · intro w'
          go_simp
          with_reducible rfl
        rotate_left
        · simp only [Act.put, List.setIfInBounds_toArray, List.set_cons_zero, List.set_cons_succ, i64_w, i32_w]
          rfl
        refine take_ (i := 12) (N := some 29) (v := ?_) (a' := ?_) #[true, true, true, true, true, true, true, true, true, false, true, true, true, false, false, false] rfl rfl (by kernel_rfl) (fun _ _ _ h => h) (Or.inl ⟨by rfl, ?_⟩) hHeld ?_ ?_
        rotate_left
        · rintro w' ⟨s0, s1, s2, s3⟩
          go_simp
          with_reducible rfl
        rotate_left
        · simp only [Act.put, List.setIfInBounds_toArray, List.set_cons_zero, List.set_cons_succ, i64_w, i32_w]
          rfl
        refine pure_ (i := 13) (N := some 30) (v := ?_) (a' := ?_) #[true, true, true, true, true, true, true, true, true, false, true, true, true, true, false, false] rfl rfl (by kernel_rfl) (fun _ _ _ h => h) (Or.inl ⟨by rfl, ?_⟩) ?_ ?_
        rotate_left
        · intro w'
          go_simp
          with_reducible rfl
        rotate_left
        · simp only [Act.put, List.setIfInBounds_toArray, List.set_cons_zero, List.set_cons_succ, i64_w, i32_w]
          rfl
        refine one_ (i := 9) (N := some 26) #[true, true, true, true, true, true, true, true, true, true, true, true, true, true, false, false] rfl rfl (by kernel_rfl) (by decide) (fun K hK => ?_)
        refine goes_ Try.func23 (by kernel_rfl) rfl #[.agg #[.string a0_0, .int .i64 a0_1, .int .i64 (z : Int), .int .i64 (R : Int)], .int .i64 (i : Int), .string X0] (by rfl) rfl rfl (by simp only [List.map_toArray, List.map_cons, List.map_nil]; rfl) ?_
        with_reducible refine (sector_Volume_of.calls a0_0 a0_1 (z : Int) (R : Int) (i : Int) X0 a0_0 a0_1 (i : Int) X0 _ rfl).mono ?_
        rintro e w5 ⟨rfl, hb5⟩
        refine ⟨_, rfl, ?_⟩
        have H5 := Aside0.mk (hb5 : Below W.heap.size W.drew w5)
        have L5 := Aside0.mk (Nat.lt_of_lt_of_le HLT.out H5.out.size)
        clear hb5
        refine hK.out _ _ ⟨(H5.out.cell (p := ⟨w.heap.size, 0, none⟩) HLT.out).trans c0, (H5.out.cell (p := ⟨w.heap.size, 1, none⟩) HLT.out).trans c1, (H5.out.cell (p := ⟨w.heap.size, 2, none⟩) HLT.out).trans c2, (H5.out.cell (p := ⟨w.heap.size, 3, none⟩) HLT.out).trans c3⟩ (fun hHeld => ?_)
        clear hK K
        refine norm_ (a' := ?_) ?_ ?_
        rotate_left
        · show Act.put _ (some 26) _ = _
          simp only [Act.put, List.setIfInBounds_toArray, List.set_cons_zero, List.set_cons_succ, i64_w, i32_w]
          rfl
        refine one_ (i := 14) (N := some 31) #[true, true, true, true, true, true, true, true, true, true, true, true, true, true, true, false] rfl rfl (by kernel_rfl) (by decide) (fun K hK => ?_)
        refine goes_ Try.func13 (by kernel_rfl) rfl #[.agg #[.string a0_0, .int .i64 a0_1, .int .i64 (i : Int), .string X0], .string X1] (by rfl) rfl rfl (by simp only [List.map_toArray, List.map_cons, List.map_nil]; rfl) ?_
        with_reducible refine (tag_Is.calls kq' a0_0 a0_1 (i : Int) X0 X1 true _ S2.out).mono ?_
        rintro e w6 ⟨rfl, hb6⟩
        refine ⟨_, rfl, ?_⟩
        have H6 := Aside0.mk (H5.out.trans (hb6.mono H5.out.size))
        have K6 := Aside0.mk hb6
        clear hb6
        refine hK.out _ _ ⟨(K6.out.cell (p := ⟨w.heap.size, 0, none⟩) L5.out).trans ((H5.out.cell (p := ⟨w.heap.size, 0, none⟩) HLT.out).trans c0), (K6.out.cell (p := ⟨w.heap.size, 1, none⟩) L5.out).trans ((H5.out.cell (p := ⟨w.heap.size, 1, none⟩) HLT.out).trans c1), (K6.out.cell (p := ⟨w.heap.size, 2, none⟩) L5.out).trans ((H5.out.cell (p := ⟨w.heap.size, 2, none⟩) HLT.out).trans c2), (K6.out.cell (p := ⟨w.heap.size, 3, none⟩) L5.out).trans ((H5.out.cell (p := ⟨w.heap.size, 3, none⟩) HLT.out).trans c3)⟩ (fun hHeld => ?_)
        clear hK K
        refine norm_ (a' := ?_) ?_ ?_
        rotate_left
        · show Act.put _ (some 31) _ = _
          simp only [Act.put, List.setIfInBounds_toArray, List.set_cons_zero, List.set_cons_succ, i64_w, i32_w]
          rfl
        refine pure_ (i := 15) (N := some 32) (v := ?_) (a' := ?_) #[true, true, true, true, true, true, true, true, true, true, true, true, true, true, true, true] rfl rfl (by kernel_rfl) (fun _ _ _ h => h) (Or.inl ⟨by rfl, ?_⟩) ?_ ?_
        rotate_left
        · intro w'
          go_simp
          with_reducible rfl
        rotate_left
        · simp only [Act.put, List.setIfInBounds_toArray, List.set_cons_zero, List.set_cons_succ, i64_w, i32_w]
          rfl
        refine done_ (by kernel_rfl) ?_
        have E6 := Aside0.mk ((below_drew (Below.refl W.heap.size W)).trans H6.out)

        obtain ⟨i0, hk, hz0, hz1, hz2⟩ := info_parts info9
        obtain ⟨i1, hj, hj0, hj1, hj2⟩ := info_parts info5
        have LEN := Aside0.mk (show rows.length + 1 ≤ maxLen ∧ (rows.length + 1) * 16 ≤ 140737488355328 from by have := Q2.out; unfold maxLen; omega)

        refine ⟨by simp, ?_⟩
        obtain ⟨h1, h2, h3, h4, h5, h6⟩ := carry (below_drew (E6.out)) HH.out
        have E3 := Aside0.mk (below_drew E6.out)
        have c4 := h2.cell
        have c2 := (blk_cell h1 2).trans (rfl : _ = some (Value.int .i64 (z : Int)))
        have SZ := Aside0.mk (show G + 3 ≤ w6.drew.heap.size from Nat.le_trans HBW.out E3.out.size)
        clear H5 L5 H6 K6 HLT
        gi_wp2_with fail
        refine Rr.start_in (N := 8) (S := fun w' => w'.cell? ⟨w.heap.size + 1, 0, none⟩ = some v ∧ w'.cell? ⟨w.heap.size, 2, none⟩ = some (.int .i64 (z : Int))) (ds := [6, 7]) #[false, false, false, false, false, false, false, false] (by kernel_rfl) (by kernel_rfl) rfl rfl ⟨c4, c2⟩ (fun hHeld => ?_)
        refine pure_ (i := 1) (N := some 34) (v := ?_) (a' := ?_) #[false, true, false, false, false, false, false, false] rfl rfl (by kernel_rfl) (fun _ _ _ h => h) (Or.inl ⟨by rfl, ?_⟩) ?_ ?_
        rotate_left
        · intro w'
          go_simp
          with_reducible rfl
        rotate_left
        · simp only [Act.put, List.setIfInBounds_toArray, List.set_cons_zero, List.set_cons_succ, i64_w, i32_w]
          rfl
        refine pure_ (i := 2) (N := some 35) (v := ?_) (a' := ?_) #[false, true, true, false, false, false, false, false] rfl rfl (by kernel_rfl) (fun _ _ _ h => h) (Or.inl ⟨by rfl, ?_⟩) ?_ ?_
        rotate_left
        · intro w'
          go_simp
          with_reducible rfl
        rotate_left
        · simp only [Act.put, List.setIfInBounds_toArray, List.set_cons_zero, List.set_cons_succ, i64_w, i32_w]
          rfl
        refine take_ (i := 0) (N := some 33) (v := ?_) (a' := ?_) #[true, true, true, false, false, false, false, false] rfl rfl (by kernel_rfl) (fun _ _ _ h => h) (Or.inl ⟨by rfl, ?_⟩) hHeld ?_ ?_
        rotate_left
        · rintro w' ⟨s0, s1⟩
          go_simp
          with_reducible rfl
        rotate_left
        · simp only [Act.put, List.setIfInBounds_toArray, List.set_cons_zero, List.set_cons_succ, i64_w, i32_w]
          rfl
        refine take_ (i := 3) (N := some 36) (v := ?_) (a' := ?_) #[true, true, true, true, false, false, false, false] rfl rfl (by kernel_rfl) (fun _ _ _ h => h) (Or.inl ⟨by rfl, ?_⟩) hHeld ?_ ?_
        rotate_left
        · rintro w' ⟨s0, s1⟩
          go_simp
          with_reducible rfl
        rotate_left
        · simp only [Act.put, List.setIfInBounds_toArray, List.set_cons_zero, List.set_cons_succ, i64_w, i32_w]
          rfl
        refine pure_ (i := 4) (N := some 37) (v := ?_) (a' := ?_) #[true, true, true, true, true, false, false, false] rfl rfl (by kernel_rfl) (fun _ _ _ h => h) (Or.inl ⟨by rfl, ?_⟩) ?_ ?_
        rotate_left
        · intro w'
          go_simp
          with_reducible rfl
        rotate_left
        · simp only [Act.put, List.setIfInBounds_toArray, List.set_cons_zero, List.set_cons_succ, i64_w, i32_w]
          rfl
        refine one_ (i := 5) (N := some 38) #[true, true, true, true, true, true, false, false] rfl rfl (by kernel_rfl) (by decide) (fun K hK => ?_)
        refine value_ (w1 := ?_) (v := ?_) (by rfl) rfl ?_ ?_
        rotate_left 2
        · go_simp
          constructor
          · rfl
          · rfl
        refine hK.out _ _ ⟨((below_alloc (Below.refl _ _) _).cell (p := ⟨w.heap.size + 1, 0, none⟩) h2.lt).trans c4, ((below_alloc (Below.refl _ _) _).cell (p := ⟨w.heap.size, 2, none⟩) (blk_lt h1)).trans c2⟩ (fun hHeld => ?_)
        clear hK K
        refine norm_ (a' := ?_) ?_ ?_
        rotate_left
        · show Act.put _ (some 38) _ = _
          simp only [Act.put, List.setIfInBounds_toArray, List.set_cons_zero, List.set_cons_succ, i64_w, i32_w]
          rfl
        refine last_ (i := 6) (N := some 39) #[true, true, true, true, true, true, true, false] rfl rfl (by kernel_rfl) (by decide) (fun K hK => ?_)
        refine step_append_lies _ (by rfl) (.tmp 33) (.tmp 38) 24 (by rfl) (G + 3) 9 i0 _ 1 16 Try.underlying24 hk hz0 hz1 hz2 rfl (by decide) v rows.length _ (by rfl) (h3.alloc _) ⟨_, 0, none⟩ 1 1 [.string X0] (by rfl) rfl (cell_one_new _ _ _) (by rintro u_ hu_; simp only [List.mem_singleton] at hu_; rw [hu_]; rfl) (by decide) LEN.out.1 LEN.out.2 (Nat.le_trans SZ.out (by show _ ≤ (World.alloc _ _).heap.size; rw [World.size_alloc]; exact Nat.le_succ _)) _ rfl ?_
        intro g cap w8 hown hgrow hat hlt
        obtain ⟨p1, p2, p3, p4, p5, p6, p7, p8⟩ := app_step h2 h3 h4 h5 h1 h6 (by decide) (by decide) (by decide) (by decide) (by decide) (by omega) (by omega) (by omega) (by omega) hown hgrow
        have c9 := p1.cell
        have f9 := p1.frozen
        have PP := Aside0.mk (And.intro p6 (And.intro p2 (And.intro p3 (And.intro p4 (And.intro p5 (And.intro p7 p8))))))
        clear p1 p2 p3 p4 p5 p6 p7 p8 hown hgrow hat hlt
        refine hK.out _ _ ?_
        clear hK K
        refine norm_ (a' := ?_) ?_ ?_
        rotate_left
        · show Act.put _ (some 39) _ = _
          simp only [Act.put, List.setIfInBounds_toArray, List.set_cons_zero, List.set_cons_succ, i64_w, i32_w]
          rfl
        refine last_ (i := 7) (N := none) #[true, true, true, true, true, true, true, true] rfl rfl (by kernel_rfl) (by decide) (fun K hK => ?_)
        refine skip_ (w1 := ?_) (by rfl) rfl ?_ ?_
        rotate_left
        · go_simp
          rfl
        refine hK.out _ _ ?_
        clear hK K
        refine done_ (by kernel_rfl) ?_
        refine ⟨by simp, ?_⟩
        obtain ⟨p6, p2, p3, p4, p5, p7, p8⟩ := PP.out
        have FIN := Aside0.mk (And.intro ((stays_below E3.out hbW).trans (p8 W2.heap.size (boxes G (G + 1 + 1) (G + 1)) (fun k hq => ⟨Nat.lt_of_lt_of_le (hbW k hq) E3.out.size, by rcases hq with rfl | rfl | rfl <;> omega, by rcases hq with rfl | rfl | rfl <;> omega⟩) (by omega))) (And.intro p6 (And.intro p2 (And.intro p3 (And.intro p4 (And.intro p5 p7))))))
        clear p6 p2 p3 p4 p5 p7 p8 PP c9 f9 h1 h2 h3 h4 h5 h6
        gi_wp2_with fail
        refine ⟨FIN.out.1, kq', rows ++ [X0], torn, ?_, ?_, ?_, ?_⟩
        · rw [List.length_append, hi]; exact S3.out
        · rw [List.length_append, List.length_append, Q2.out, hi]; rfl
        · rw [List.length_append]; omega
        · obtain ⟨_, p6, p2, p3, p4, p5, p7⟩ := FIN.out
          refine ⟨p6, ⟨_, p2, ?_⟩, ⟨_, p4, p5⟩, p7⟩
          rw [List.length_append, List.map_append]
          exact p3
      · have hE : (i + 1) * (z + 8) = i * (z + 8) + z + 8 := by rw [Nat.succ_mul]; omega
        obtain ⟨X, hX⟩ : ∃ X, secX (z + 8) a1 i = X := ⟨_, rfl⟩
        obtain ⟨X0, hX0⟩ : ∃ X0, X.extract 0 z = X0 := ⟨_, rfl⟩
        obtain ⟨X1, hX1⟩ : ∃ X1, X.extract z X.size = X1 := ⟨_, rfl⟩
        have hXe : X = a1.extract (i * (z + 8)) (i * (z + 8) + z + 8) := by rw [← hX]; unfold secX; rw [if_pos s1, hE]
        have hXs : X.size = z + 8 := by rw [hXe, ByteArray.size_extract]; omega
        have e0 : a1.extract (i * (z + 8)) (i * (z + 8) + z) = X0 := by rw [← hX0, hXe, ByteArray.extract_extract]; congr 1; omega
        have e1 : a1.extract (i * (z + 8) + z) ((i + 1) * (z + 8)) = X1 := by rw [← hX1, hXs, hXe, ByteArray.extract_extract, hE]; congr 1; omega
        rw [e0, e1] at s2
        rw [hX]
        have S2 := Aside0.mk s2
        have S3 := Aside0.mk s3
        have HXS := Aside0.mk hXs
        have b0 : (0 : Int) ≤ (z : Int) := by omega
        have b1 : (z : Int) ≤ (X.size : Int) := by omega
        have b2 : z ≤ X.size := by omega
        have hne1 : X.toList ≠ [] := toList_ne (by omega)
        have hne2 : (X.toList == ([] : List UInt8)) = false := beq_eq_false_iff_ne.mpr hne1
        have hne3 : (X.toList != ([] : List UInt8)) = true := bne_iff_ne.mpr hne1
        have HX0 := Aside0.mk hX0
        have HX1 := Aside0.mk hX1
        clear s1 s2 s3 HST e0 e1 hXe hE hX hXs
        have HLT := Aside0.mk (blk_lt HH.out.1)
        gi_wp2_with fail
        refine Rr.start_in (N := 16) (S := fun w' => w'.cell? ⟨w.heap.size, 0, none⟩ = some (.string a0_0) ∧ w'.cell? ⟨w.heap.size, 1, none⟩ = some (.int .i64 a0_1) ∧ w'.cell? ⟨w.heap.size, 2, none⟩ = some (.int .i64 (z : Int)) ∧ w'.cell? ⟨w.heap.size, 3, none⟩ = some (.int .i64 (R : Int))) (ds := []) #[false, false, false, false, false, false, false, false, false, false, false, false, false, false, false, false] (by kernel_rfl) (by kernel_rfl) rfl rfl ⟨c0, c1, c2, c3⟩ (fun hHeld => ?_)
        refine pure_ (i := 0) (N := some 17) (v := ?_) (a' := ?_) #[true, false, false, false, false, false, false, false, false, false, false, false, false, false, false, false] rfl rfl (by kernel_rfl) (fun _ _ _ h => h) (Or.inl ⟨by rfl, ?_⟩) ?_ ?_
        rotate_left
        · intro w'
          go_simp
          with_reducible rfl
        rotate_left
        · simp only [Act.put, List.setIfInBounds_toArray, List.set_cons_zero, List.set_cons_succ, i64_w, i32_w]
          rfl
        refine pure_ (i := 1) (N := some 18) (v := ?_) (a' := ?_) #[true, true, false, false, false, false, false, false, false, false, false, false, false, false, false, false] rfl rfl (by kernel_rfl) (fun _ _ _ h => h) (Or.inl ⟨by rfl, ?_⟩) ?_ ?_
        rotate_left
        · intro w'
          go_simp
          with_reducible rfl
        rotate_left
        · simp only [Act.put, List.setIfInBounds_toArray, List.set_cons_zero, List.set_cons_succ, i64_w, i32_w]
          rfl
        refine pure_ (i := 2) (N := some 19) (v := ?_) (a' := ?_) #[true, true, true, false, false, false, false, false, false, false, false, false, false, false, false, false] rfl rfl (by kernel_rfl) (fun _ _ _ h => h) (Or.inl ⟨by rfl, ?_⟩) ?_ ?_
        rotate_left
        · intro w'
          go_simp
          with_reducible rfl
        rotate_left
        · simp only [Act.put, List.setIfInBounds_toArray, List.set_cons_zero, List.set_cons_succ, i64_w, i32_w]
          rfl
        refine pure_ (i := 4) (N := some 21) (v := ?_) (a' := ?_) #[true, true, true, false, true, false, false, false, false, false, false, false, false, false, false, false] rfl rfl (by kernel_rfl) (fun _ _ _ h => h) (Or.inl ⟨by rfl, ?_⟩) ?_ ?_
        rotate_left
        · intro w'
          go_simp
          with_reducible rfl
        rotate_left
        · simp only [Act.put, List.setIfInBounds_toArray, List.set_cons_zero, List.set_cons_succ, i64_w, i32_w]
          rfl
        refine pure_ (i := 5) (N := some 22) (v := ?_) (a' := ?_) #[true, true, true, false, true, true, false, false, false, false, false, false, false, false, false, false] rfl rfl (by kernel_rfl) (fun _ _ _ h => h) (Or.inl ⟨by rfl, ?_⟩) ?_ ?_
        rotate_left
        · intro w'
          go_simp
          with_reducible rfl
        rotate_left
        · simp only [Act.put, List.setIfInBounds_toArray, List.set_cons_zero, List.set_cons_succ, i64_w, i32_w]
          rfl
        refine pure_ (i := 6) (N := some 23) (v := ?_) (a' := ?_) #[true, true, true, false, true, true, true, false, false, false, false, false, false, false, false, false] rfl rfl (by kernel_rfl) (fun _ _ _ h => h) (Or.inl ⟨by rfl, ?_⟩) ?_ ?_
        rotate_left
        · intro w'
          go_simp
          with_reducible rfl
        rotate_left
        · simp only [Act.put, List.setIfInBounds_toArray, List.set_cons_zero, List.set_cons_succ, i64_w, i32_w]
          rfl
        refine pure_ (i := 10) (N := some 27) (v := ?_) (a' := ?_) #[true, true, true, false, true, true, true, false, false, false, true, false, false, false, false, false] rfl rfl (by kernel_rfl) (fun _ _ _ h => h) (Or.inl ⟨by rfl, ?_⟩) ?_ ?_
        rotate_left
        · intro w'
          go_simp
          with_reducible rfl
        rotate_left
        · simp only [Act.put, List.setIfInBounds_toArray, List.set_cons_zero, List.set_cons_succ, i64_w, i32_w]
          rfl
        refine pure_ (i := 11) (N := some 28) (v := ?_) (a' := ?_) #[true, true, true, false, true, true, true, false, false, false, true, true, false, false, false, false] rfl rfl (by kernel_rfl) (fun _ _ _ h => h) (Or.inl ⟨by rfl, ?_⟩) ?_ ?_
        rotate_left
        · intro w'
          go_simp
          with_reducible rfl
        rotate_left
        · simp only [Act.put, List.setIfInBounds_toArray, List.set_cons_zero, List.set_cons_succ, i64_w, i32_w]
          rfl
        refine take_ (i := 3) (N := some 20) (v := ?_) (a' := ?_) #[true, true, true, true, true, true, true, false, false, false, true, true, false, false, false, false] rfl rfl (by kernel_rfl) (fun _ _ _ h => h) (Or.inl ⟨by rfl, ?_⟩) hHeld ?_ ?_
        rotate_left
        · rintro w' ⟨s0, s1, s2, s3⟩
          go_simp
          with_reducible rfl
        rotate_left
        · simp only [Act.put, List.setIfInBounds_toArray, List.set_cons_zero, List.set_cons_succ, i64_w, i32_w]
          rfl
        refine take_ (i := 7) (N := some 24) (v := ?_) (a' := ?_) #[true, true, true, true, true, true, true, true, false, false, true, true, false, false, false, false] rfl rfl (by kernel_rfl) (fun _ _ _ h => h) (Or.inl ⟨by rfl, ?_⟩) hHeld ?_ ?_
        rotate_left
        · rintro w' ⟨s0, s1, s2, s3⟩
          go_simp
          with_reducible rfl
        rotate_left
        · simp only [Act.put, List.setIfInBounds_toArray, List.set_cons_zero, List.set_cons_succ, i64_w, i32_w]
          rfl
        refine pure_ (i := 8) (N := some 25) (v := ?_) (a' := ?_) #[true, true, true, true, true, true, true, true, true, false, true, true, false, false, false, false] rfl rfl (by kernel_rfl) (fun _ _ _ h => h) (Or.inl ⟨by rfl, ?_⟩) ?_ ?_
        rotate_left
        · intro w'
          go_simp
          with_reducible rfl
        rotate_left
        · simp only [Act.put, List.setIfInBounds_toArray, List.set_cons_zero, List.set_cons_succ, i64_w, i32_w]
          rfl
        refine take_ (i := 12) (N := some 29) (v := ?_) (a' := ?_) #[true, true, true, true, true, true, true, true, true, false, true, true, true, false, false, false] rfl rfl (by kernel_rfl) (fun _ _ _ h => h) (Or.inl ⟨by rfl, ?_⟩) hHeld ?_ ?_
        rotate_left
        · rintro w' ⟨s0, s1, s2, s3⟩
          go_simp
          with_reducible rfl
        rotate_left
        · simp only [Act.put, List.setIfInBounds_toArray, List.set_cons_zero, List.set_cons_succ, i64_w, i32_w]
          rfl
        refine pure_ (i := 13) (N := some 30) (v := ?_) (a' := ?_) #[true, true, true, true, true, true, true, true, true, false, true, true, true, true, false, false] rfl rfl (by kernel_rfl) (fun _ _ _ h => h) (Or.inl ⟨by rfl, ?_⟩) ?_ ?_
        rotate_left
        · intro w'
          go_simp
          with_reducible rfl
        rotate_left
        · simp only [Act.put, List.setIfInBounds_toArray, List.set_cons_zero, List.set_cons_succ, i64_w, i32_w]
          rfl
        refine one_ (i := 9) (N := some 26) #[true, true, true, true, true, true, true, true, true, true, true, true, true, true, false, false] rfl rfl (by kernel_rfl) (by decide) (fun K hK => ?_)
        refine goes_ Try.func23 (by kernel_rfl) rfl #[.agg #[.string a0_0, .int .i64 a0_1, .int .i64 (z : Int), .int .i64 (R : Int)], .int .i64 (i : Int), .string X0] (by rfl) rfl rfl (by simp only [List.map_toArray, List.map_cons, List.map_nil]; rfl) ?_
        with_reducible refine (sector_Volume_of.calls a0_0 a0_1 (z : Int) (R : Int) (i : Int) X0 a0_0 a0_1 (i : Int) X0 _ rfl).mono ?_
        rintro e w5 ⟨rfl, hb5⟩
        refine ⟨_, rfl, ?_⟩
        have H5 := Aside0.mk (hb5 : Below W.heap.size W.drew w5)
        have L5 := Aside0.mk (Nat.lt_of_lt_of_le HLT.out H5.out.size)
        clear hb5
        refine hK.out _ _ ⟨(H5.out.cell (p := ⟨w.heap.size, 0, none⟩) HLT.out).trans c0, (H5.out.cell (p := ⟨w.heap.size, 1, none⟩) HLT.out).trans c1, (H5.out.cell (p := ⟨w.heap.size, 2, none⟩) HLT.out).trans c2, (H5.out.cell (p := ⟨w.heap.size, 3, none⟩) HLT.out).trans c3⟩ (fun hHeld => ?_)
        clear hK K
        refine norm_ (a' := ?_) ?_ ?_
        rotate_left
        · show Act.put _ (some 26) _ = _
          simp only [Act.put, List.setIfInBounds_toArray, List.set_cons_zero, List.set_cons_succ, i64_w, i32_w]
          rfl
        refine one_ (i := 14) (N := some 31) #[true, true, true, true, true, true, true, true, true, true, true, true, true, true, true, false] rfl rfl (by kernel_rfl) (by decide) (fun K hK => ?_)
        refine goes_ Try.func13 (by kernel_rfl) rfl #[.agg #[.string a0_0, .int .i64 a0_1, .int .i64 (i : Int), .string X0], .string X1] (by rfl) rfl rfl (by simp only [List.map_toArray, List.map_cons, List.map_nil]; rfl) ?_
        with_reducible refine (tag_Is.calls kq' a0_0 a0_1 (i : Int) X0 X1 false _ S2.out).mono ?_
        rintro e w6 ⟨rfl, hb6⟩
        refine ⟨_, rfl, ?_⟩
        have H6 := Aside0.mk (H5.out.trans (hb6.mono H5.out.size))
        have K6 := Aside0.mk hb6
        clear hb6
        refine hK.out _ _ ⟨(K6.out.cell (p := ⟨w.heap.size, 0, none⟩) L5.out).trans ((H5.out.cell (p := ⟨w.heap.size, 0, none⟩) HLT.out).trans c0), (K6.out.cell (p := ⟨w.heap.size, 1, none⟩) L5.out).trans ((H5.out.cell (p := ⟨w.heap.size, 1, none⟩) HLT.out).trans c1), (K6.out.cell (p := ⟨w.heap.size, 2, none⟩) L5.out).trans ((H5.out.cell (p := ⟨w.heap.size, 2, none⟩) HLT.out).trans c2), (K6.out.cell (p := ⟨w.heap.size, 3, none⟩) L5.out).trans ((H5.out.cell (p := ⟨w.heap.size, 3, none⟩) HLT.out).trans c3)⟩ (fun hHeld => ?_)
        clear hK K
        refine norm_ (a' := ?_) ?_ ?_
        rotate_left
        · show Act.put _ (some 31) _ = _
          simp only [Act.put, List.setIfInBounds_toArray, List.set_cons_zero, List.set_cons_succ, i64_w, i32_w]
          rfl
        refine pure_ (i := 15) (N := some 32) (v := ?_) (a' := ?_) #[true, true, true, true, true, true, true, true, true, true, true, true, true, true, true, true] rfl rfl (by kernel_rfl) (fun _ _ _ h => h) (Or.inl ⟨by rfl, ?_⟩) ?_ ?_
        rotate_left
        · intro w'
          go_simp
          with_reducible rfl
        rotate_left
        · simp only [Act.put, List.setIfInBounds_toArray, List.set_cons_zero, List.set_cons_succ, i64_w, i32_w]
          rfl
        refine done_ (by kernel_rfl) ?_
        have E6 := Aside0.mk ((below_drew (Below.refl W.heap.size W)).trans H6.out)

        obtain ⟨i0, hk, hz0, hz1, hz2⟩ := info_parts info9
        obtain ⟨i1, hj, hj0, hj1, hj2⟩ := info_parts info5
        have LEN := Aside0.mk (show rows.length + 1 ≤ maxLen ∧ (rows.length + 1) * 16 ≤ 140737488355328 from by have := Q2.out; unfold maxLen; omega)

        refine ⟨by simp, ?_⟩
        obtain ⟨h1, h2, h3, h4, h5, h6⟩ := carry (below_drew (E6.out)) HH.out
        have E3 := Aside0.mk (below_drew E6.out)
        have c4 := h2.cell
        have c2 := (blk_cell h1 2).trans (rfl : _ = some (Value.int .i64 (z : Int)))
        have SZ := Aside0.mk (show G + 3 ≤ w6.drew.heap.size from Nat.le_trans HBW.out E3.out.size)
        clear H5 L5 H6 K6 HLT
        gi_wp2_with fail
        refine Rr.start_in (N := 8) (S := fun w' => w'.cell? ⟨w.heap.size + 1, 0, none⟩ = some v ∧ w'.cell? ⟨w.heap.size, 2, none⟩ = some (.int .i64 (z : Int))) (ds := [6, 7]) #[false, false, false, false, false, false, false, false] (by kernel_rfl) (by kernel_rfl) rfl rfl ⟨c4, c2⟩ (fun hHeld => ?_)
        refine pure_ (i := 1) (N := some 41) (v := ?_) (a' := ?_) #[false, true, false, false, false, false, false, false] rfl rfl (by kernel_rfl) (fun _ _ _ h => h) (Or.inl ⟨by rfl, ?_⟩) ?_ ?_
        rotate_left
        · intro w'
          go_simp
          with_reducible rfl
        rotate_left
        · simp only [Act.put, List.setIfInBounds_toArray, List.set_cons_zero, List.set_cons_succ, i64_w, i32_w]
          rfl
        refine take_ (i := 0) (N := some 40) (v := ?_) (a' := ?_) #[true, true, false, false, false, false, false, false] rfl rfl (by kernel_rfl) (fun _ _ _ h => h) (Or.inl ⟨by rfl, ?_⟩) hHeld ?_ ?_
        rotate_left
        · rintro w' ⟨s0, s1⟩
          go_simp
          with_reducible rfl
        rotate_left
        · simp only [Act.put, List.setIfInBounds_toArray, List.set_cons_zero, List.set_cons_succ, i64_w, i32_w]
          rfl
        refine take_ (i := 2) (N := some 42) (v := ?_) (a' := ?_) #[true, true, true, false, false, false, false, false] rfl rfl (by kernel_rfl) (fun _ _ _ h => h) (Or.inl ⟨by rfl, ?_⟩) hHeld ?_ ?_
        rotate_left
        · rintro w' ⟨s0, s1⟩
          go_simp
          with_reducible rfl
        rotate_left
        · simp only [Act.put, List.setIfInBounds_toArray, List.set_cons_zero, List.set_cons_succ, i64_w, i32_w]
          rfl
        refine one_ (i := 3) (N := some 43) #[true, true, true, true, false, false, false, false] rfl rfl (by kernel_rfl) (by decide) (fun K hK => ?_)
        obtain ⟨wm, hmk, om, gm⟩ := run_makeSlice_full (P := Try.prog) _ (G + 3) 34 5 i1 (.int .u8 0) 1 Try.underlying34 hj hj0 hj1 .i64 .i64 z (by omega) (by rw [hj2]; omega) (by unfold maxLen; omega) SZ.out
        rw [zeros_row] at om
        have hcv : (convert 34 9 (.slice (some ⟨w6.heap.size, 0, none⟩) z z)).run Try.prog wm = .ok (.string (zerosB z)) wm := own_string (P := Try.prog) Try.underlying34 Try.underlying5 Try.underlying9 om
        have GM := Aside0.mk gm.size
        have GB := Aside0.mk (below_grown gm)
        obtain ⟨m1, m2, m3, m4, m5, m6⟩ := carry (below_grown gm) ⟨h1, h2, h3, h4, h5, h6⟩
        refine value_ (w1 := wm) (v := .slice (some ⟨w6.heap.size, 0, none⟩) z z) (by rfl) rfl ?_ ?_
        · go_simp
        refine hK.out _ _ ⟨m2.cell, (blk_cell m1 2).trans rfl⟩ (fun hHeld => ?_)
        clear hK K
        refine norm_ (a' := ?_) ?_ ?_
        rotate_left
        · show Act.put _ (some 43) _ = _
          simp only [Act.put, List.setIfInBounds_toArray, List.set_cons_zero, List.set_cons_succ, i64_w, i32_w]
          rfl
        refine one_ (i := 4) (N := some 44) #[true, true, true, true, true, false, false, false] rfl rfl (by kernel_rfl) (by decide) (fun K hK => ?_)
        refine value_ (w1 := wm) (v := .string (zerosB z)) (by rfl) rfl ?_ ?_
        · go_simp
        refine hK.out _ _ ⟨m2.cell, (blk_cell m1 2).trans rfl⟩ (fun hHeld => ?_)
        clear hK K
        refine norm_ (a' := ?_) ?_ ?_
        rotate_left
        · show Act.put _ (some 44) _ = _
          simp only [Act.put, List.setIfInBounds_toArray, List.set_cons_zero, List.set_cons_succ, i64_w, i32_w]
          rfl
        refine one_ (i := 5) (N := some 45) #[true, true, true, true, true, true, false, false] rfl rfl (by kernel_rfl) (by decide) (fun K hK => ?_)
        refine value_ (w1 := ?_) (v := ?_) (by rfl) rfl ?_ ?_
        rotate_left 2
        · go_simp
          constructor
          · rfl
          · rfl
        refine hK.out _ _ ⟨((below_alloc (Below.refl _ _) _).cell (p := ⟨w.heap.size + 1, 0, none⟩) m2.lt).trans m2.cell, ((below_alloc (Below.refl _ _) _).cell (p := ⟨w.heap.size, 2, none⟩) (blk_lt m1)).trans ((blk_cell m1 2).trans rfl)⟩ (fun hHeld => ?_)
        clear hK K
        refine norm_ (a' := ?_) ?_ ?_
        rotate_left
        · show Act.put _ (some 45) _ = _
          simp only [Act.put, List.setIfInBounds_toArray, List.set_cons_zero, List.set_cons_succ, i64_w, i32_w]
          rfl
        refine last_ (i := 6) (N := some 46) #[true, true, true, true, true, true, true, false] rfl rfl (by kernel_rfl) (by decide) (fun K hK => ?_)
        refine step_append_lies _ (by rfl) (.tmp 40) (.tmp 45) 24 (by rfl) (G + 3) 9 i0 _ 1 16 Try.underlying24 hk hz0 hz1 hz2 rfl (by decide) v rows.length _ (by rfl) (m3.alloc _) ⟨_, 0, none⟩ 1 1 [.string (zerosB z)] (by rfl) rfl (cell_one_new _ _ _) (by rintro u_ hu_; simp only [List.mem_singleton] at hu_; rw [hu_]; rfl) (by decide) LEN.out.1 LEN.out.2 (Nat.le_trans (Nat.le_trans SZ.out gm.size) (by show _ ≤ (World.alloc _ _).heap.size; rw [World.size_alloc]; exact Nat.le_succ _)) _ rfl ?_
        intro g cap w8 hown hgrow hat hlt
        obtain ⟨p1, p2, p3, p4, p5, p6, p7, p8⟩ := app_step m2 m3 m4 m5 m1 m6 (by decide) (by decide) (by decide) (by decide) (by decide) (by omega) (by omega) (by omega) (by omega) hown hgrow
        have c9 := p1.cell
        have f9 := p1.frozen
        have PP := Aside0.mk (And.intro p6 (And.intro p2 (And.intro p3 (And.intro p4 (And.intro p5 (And.intro p7 p8))))))
        clear p1 p2 p3 p4 p5 p6 p7 p8 hown hgrow hat hlt
        refine hK.out _ _ ?_
        clear hK K
        refine norm_ (a' := ?_) ?_ ?_
        rotate_left
        · show Act.put _ (some 46) _ = _
          simp only [Act.put, List.setIfInBounds_toArray, List.set_cons_zero, List.set_cons_succ, i64_w, i32_w]
          rfl
        refine last_ (i := 7) (N := none) #[true, true, true, true, true, true, true, true] rfl rfl (by kernel_rfl) (by decide) (fun K hK => ?_)
        refine skip_ (w1 := ?_) (by rfl) rfl ?_ ?_
        rotate_left
        · go_simp
          rfl
        refine hK.out _ _ ?_
        clear hK K
        refine done_ (by kernel_rfl) ?_
        refine ⟨by simp, ?_⟩
        obtain ⟨p6, p2, p3, p4, p5, p7, p8⟩ := PP.out
        have ST8 := Aside0.mk (((stays_below E3.out hbW).trans (stays_below GB.out (fun k hq => Nat.lt_of_lt_of_le (hbW k hq) E3.out.size))).trans (p8 W2.heap.size (boxes G (G + 1 + 1) (G + 1)) (fun k hq => ⟨Nat.lt_of_lt_of_le (hbW k hq) (Nat.le_trans E3.out.size GM.out), by rcases hq with rfl | rfl | rfl <;> omega, by rcases hq with rfl | rfl | rfl <;> omega⟩) (by omega)))
        have SZ9 := Aside0.mk (Nat.le_trans HBW.out ST8.out.size)
        have c5 := p4.cell
        have f5 := p4.frozen
        have E9 := Aside0.mk (And.intro p6 (And.intro p2 (And.intro p3 (And.intro p4 (And.intro p5 p7)))))
        have LEN2 := Aside0.mk (show torn.length + 1 ≤ maxLen ∧ (torn.length + 1) * 8 ≤ 140737488355328 from by unfold maxLen; omega)
        clear p6 p2 p3 p4 p5 p7 p8 PP c9 f9 h1 h2 h3 h4 h5 h6 m1 m2 m3 m4 m5 m6 hmk hcv om gm
        generalize w8.setCell ⟨w.heap.size + 1, 0, none⟩ (.slice (some ⟨g, 0, none⟩) (rows.length + 1) cap) = W9 at ST8 SZ9 c5 f5 E9 ⊢
        obtain ⟨i2, hl, hl0, hl1, hl2⟩ := info_parts info3
        gi_wp2_with (gi_at_builtin; refine wpListIn_append_own_at _ rfl _ _ 30 rfl (G + 3) 3 i2 _ 1 8 Try.underlying30 hl hl0 hl1 hl2 rfl (by decide) u torn.length _ rfl (E9.out.2.2.2.2.1.alloc _) ⟨W9.heap.size, 0, none⟩ 1 1 [.int .i64 (i : Int)] rfl rfl (cell_one_new _ _ _) (by rintro u_ hu_; simp only [List.mem_singleton] at hu_; rw [hu_]; rfl) LEN2.out.1 LEN2.out.2 (Nat.le_trans SZ9.out (by rw [World.size_alloc]; exact Nat.le_succ _)) ?_)
        intro v' w10 hown' hgrow' _ _
        obtain ⟨g', cap', rfl⟩ := ownsRow_succ hown'
        obtain ⟨p1, p2, p3, p4, p5, p6, p7, p8⟩ := app_step E9.out.2.2.2.1 E9.out.2.2.2.2.1 E9.out.2.1 E9.out.2.2.1 E9.out.1 E9.out.2.2.2.2.2 (by decide) (by decide) (by decide) (by decide) (by decide) (by omega) (by omega) (by omega) (by omega) hown' hgrow'
        have c9 := p1.cell
        have f9 := p1.frozen
        have FIN := Aside0.mk (And.intro (ST8.out.trans (p8 W2.heap.size (boxes G (G + 1 + 1) (G + 1)) (fun k hq => ⟨Nat.lt_of_lt_of_le (hbW k hq) ST8.out.size, by rcases hq with rfl | rfl | rfl <;> omega, by rcases hq with rfl | rfl | rfl <;> omega⟩) (by omega))) (And.intro p6 (And.intro p2 (And.intro p3 (And.intro p4 (And.intro p5 p7))))))
        clear p1 p6 p2 p3 p4 p5 p7 p8 hown' hgrow'
        gi_wp2_with fail
        refine ⟨FIN.out.1, kq', rows ++ [zerosB z], torn ++ [(i : Int)], ?_, ?_, ?_, ?_⟩
        · rw [List.length_append, hi]; exact S3.out
        · rw [List.length_append, List.length_append, Q2.out, hi]; rfl
        · rw [List.length_append, List.length_append, hi]; simp only [List.length_cons, List.length_nil]; omega
        · obtain ⟨_, p6, p2, p3, p4, p5, p7⟩ := FIN.out
          refine ⟨p6, ⟨_, p4, ?_⟩, ⟨_, p2, ?_⟩, p7⟩
          · rw [List.length_append, List.map_append]
            exact p5
          · rw [List.length_append, List.map_append]
            exact p3
      · have hxe : secX (z + 8) a1 i = ⟨#[]⟩ := by unfold secX; rw [if_neg s1]
        have S3 := Aside0.mk s3
        clear s3 HST
        rw [hxe]
        gi_wp2_with fail
        refine Rr.start_in (N := 16) (S := fun w' => True) (ds := []) #[false, false, false, false, false, false, false, false, false, false, false, false, false, false, false, false] (by kernel_rfl) (by kernel_rfl) rfl rfl trivial (fun hHeld => ?_)
        refine pure_ (i := 0) (N := some 17) (v := ?_) (a' := ?_) #[true, false, false, false, false, false, false, false, false, false, false, false, false, false, false, false] rfl rfl (by kernel_rfl) (fun _ _ _ h => h) (Or.inl ⟨by rfl, ?_⟩) ?_ ?_
        rotate_left
        · intro w'
          go_simp
          with_reducible rfl
        rotate_left
        · simp only [Act.put, List.setIfInBounds_toArray, List.set_cons_zero, List.set_cons_succ, i64_w, i32_w]
          rfl
        refine pure_ (i := 1) (N := some 18) (v := ?_) (a' := ?_) #[true, true, false, false, false, false, false, false, false, false, false, false, false, false, false, false] rfl rfl (by kernel_rfl) (fun _ _ _ h => h) (Or.inl ⟨by rfl, ?_⟩) ?_ ?_
        rotate_left
        · intro w'
          go_simp
          with_reducible rfl
        rotate_left
        · simp only [Act.put, List.setIfInBounds_toArray, List.set_cons_zero, List.set_cons_succ, i64_w, i32_w]
          rfl
        refine pure_ (i := 2) (N := some 19) (v := ?_) (a' := ?_) #[true, true, true, false, false, false, false, false, false, false, false, false, false, false, false, false] rfl rfl (by kernel_rfl) (fun _ _ _ h => h) (Or.inl ⟨by rfl, ?_⟩) ?_ ?_
        rotate_left
        · intro w'
          go_simp
          with_reducible rfl
        rotate_left
        · simp only [Act.put, List.setIfInBounds_toArray, List.set_cons_zero, List.set_cons_succ, i64_w, i32_w]
          rfl
        refine pure_ (i := 3) (N := some 20) (v := undef) (a' := ?_) #[true, true, true, true, false, false, false, false, false, false, false, false, false, false, false, false] rfl rfl (by kernel_rfl) (fun _ _ _ h => h) (Or.inr ⟨by rfl, rfl⟩) ?_ ?_
        rotate_left
        · simp only [Act.put, List.setIfInBounds_toArray, List.set_cons_zero, List.set_cons_succ, i64_w, i32_w]
          rfl
        refine pure_ (i := 4) (N := some 21) (v := undef) (a' := ?_) #[true, true, true, true, true, false, false, false, false, false, false, false, false, false, false, false] rfl rfl (by kernel_rfl) (fun _ _ _ h => h) (Or.inr ⟨by rfl, rfl⟩) ?_ ?_
        rotate_left
        · simp only [Act.put, List.setIfInBounds_toArray, List.set_cons_zero, List.set_cons_succ, i64_w, i32_w]
          rfl
        refine pure_ (i := 5) (N := some 22) (v := undef) (a' := ?_) #[true, true, true, true, true, true, false, false, false, false, false, false, false, false, false, false] rfl rfl (by kernel_rfl) (fun _ _ _ h => h) (Or.inr ⟨by rfl, rfl⟩) ?_ ?_
        rotate_left
        · simp only [Act.put, List.setIfInBounds_toArray, List.set_cons_zero, List.set_cons_succ, i64_w, i32_w]
          rfl
        refine pure_ (i := 6) (N := some 23) (v := undef) (a' := ?_) #[true, true, true, true, true, true, true, false, false, false, false, false, false, false, false, false] rfl rfl (by kernel_rfl) (fun _ _ _ h => h) (Or.inr ⟨by rfl, rfl⟩) ?_ ?_
        rotate_left
        · simp only [Act.put, List.setIfInBounds_toArray, List.set_cons_zero, List.set_cons_succ, i64_w, i32_w]
          rfl
        refine pure_ (i := 7) (N := some 24) (v := undef) (a' := ?_) #[true, true, true, true, true, true, true, true, false, false, false, false, false, false, false, false] rfl rfl (by kernel_rfl) (fun _ _ _ h => h) (Or.inr ⟨by rfl, rfl⟩) ?_ ?_
        rotate_left
        · simp only [Act.put, List.setIfInBounds_toArray, List.set_cons_zero, List.set_cons_succ, i64_w, i32_w]
          rfl
        refine pure_ (i := 8) (N := some 25) (v := undef) (a' := ?_) #[true, true, true, true, true, true, true, true, true, false, false, false, false, false, false, false] rfl rfl (by kernel_rfl) (fun _ _ _ h => h) (Or.inr ⟨by rfl, rfl⟩) ?_ ?_
        rotate_left
        · simp only [Act.put, List.setIfInBounds_toArray, List.set_cons_zero, List.set_cons_succ, i64_w, i32_w]
          rfl
        refine pure_ (i := 9) (N := some 26) (v := undef) (a' := ?_) #[true, true, true, true, true, true, true, true, true, true, false, false, false, false, false, false] rfl rfl (by kernel_rfl) (fun _ _ _ h => h) (Or.inr ⟨by rfl, rfl⟩) ?_ ?_
        rotate_left
        · simp only [Act.put, List.setIfInBounds_toArray, List.set_cons_zero, List.set_cons_succ, i64_w, i32_w]
          rfl
        refine pure_ (i := 10) (N := some 27) (v := undef) (a' := ?_) #[true, true, true, true, true, true, true, true, true, true, true, false, false, false, false, false] rfl rfl (by kernel_rfl) (fun _ _ _ h => h) (Or.inr ⟨by rfl, rfl⟩) ?_ ?_
        rotate_left
        · simp only [Act.put, List.setIfInBounds_toArray, List.set_cons_zero, List.set_cons_succ, i64_w, i32_w]
          rfl
        refine pure_ (i := 11) (N := some 28) (v := undef) (a' := ?_) #[true, true, true, true, true, true, true, true, true, true, true, true, false, false, false, false] rfl rfl (by kernel_rfl) (fun _ _ _ h => h) (Or.inr ⟨by rfl, rfl⟩) ?_ ?_
        rotate_left
        · simp only [Act.put, List.setIfInBounds_toArray, List.set_cons_zero, List.set_cons_succ, i64_w, i32_w]
          rfl
        refine pure_ (i := 12) (N := some 29) (v := undef) (a' := ?_) #[true, true, true, true, true, true, true, true, true, true, true, true, true, false, false, false] rfl rfl (by kernel_rfl) (fun _ _ _ h => h) (Or.inr ⟨by rfl, rfl⟩) ?_ ?_
        rotate_left
        · simp only [Act.put, List.setIfInBounds_toArray, List.set_cons_zero, List.set_cons_succ, i64_w, i32_w]
          rfl
        refine pure_ (i := 13) (N := some 30) (v := undef) (a' := ?_) #[true, true, true, true, true, true, true, true, true, true, true, true, true, true, false, false] rfl rfl (by kernel_rfl) (fun _ _ _ h => h) (Or.inr ⟨by rfl, rfl⟩) ?_ ?_
        rotate_left
        · simp only [Act.put, List.setIfInBounds_toArray, List.set_cons_zero, List.set_cons_succ, i64_w, i32_w]
          rfl
        refine pure_ (i := 14) (N := some 31) (v := undef) (a' := ?_) #[true, true, true, true, true, true, true, true, true, true, true, true, true, true, true, false] rfl rfl (by kernel_rfl) (fun _ _ _ h => h) (Or.inr ⟨by rfl, rfl⟩) ?_ ?_
        rotate_left
        · simp only [Act.put, List.setIfInBounds_toArray, List.set_cons_zero, List.set_cons_succ, i64_w, i32_w]
          rfl
        refine pure_ (i := 15) (N := some 32) (v := ?_) (a' := ?_) #[true, true, true, true, true, true, true, true, true, true, true, true, true, true, true, true] rfl rfl (by kernel_rfl) (fun _ _ _ h => h) (Or.inl ⟨by rfl, ?_⟩) ?_ ?_
        rotate_left
        · intro w'
          go_simp
          with_reducible rfl
        rotate_left
        · simp only [Act.put, List.setIfInBounds_toArray, List.set_cons_zero, List.set_cons_succ, i64_w, i32_w]
          rfl
        refine done_ (by kernel_rfl) ?_
        have E6 := Aside0.mk (below_drew (Below.refl W.heap.size W))
        generalize W.drew = w6 at E6 ⊢

        obtain ⟨i0, hk, hz0, hz1, hz2⟩ := info_parts info9
        obtain ⟨i1, hj, hj0, hj1, hj2⟩ := info_parts info5
        have LEN := Aside0.mk (show rows.length + 1 ≤ maxLen ∧ (rows.length + 1) * 16 ≤ 140737488355328 from by have := Q2.out; unfold maxLen; omega)

        refine ⟨by simp, ?_⟩
        obtain ⟨h1, h2, h3, h4, h5, h6⟩ := carry (below_drew (E6.out)) HH.out
        have E3 := Aside0.mk (below_drew E6.out)
        have c4 := h2.cell
        have c2 := (blk_cell h1 2).trans (rfl : _ = some (Value.int .i64 (z : Int)))
        have SZ := Aside0.mk (show G + 3 ≤ w6.drew.heap.size from Nat.le_trans HBW.out E3.out.size)
        gi_wp2_with fail
        refine Rr.start_in (N := 8) (S := fun w' => w'.cell? ⟨w.heap.size + 1, 0, none⟩ = some v ∧ w'.cell? ⟨w.heap.size, 2, none⟩ = some (.int .i64 (z : Int))) (ds := [6, 7]) #[false, false, false, false, false, false, false, false] (by kernel_rfl) (by kernel_rfl) rfl rfl ⟨c4, c2⟩ (fun hHeld => ?_)
        refine pure_ (i := 1) (N := some 41) (v := ?_) (a' := ?_) #[false, true, false, false, false, false, false, false] rfl rfl (by kernel_rfl) (fun _ _ _ h => h) (Or.inl ⟨by rfl, ?_⟩) ?_ ?_
        rotate_left
        · intro w'
          go_simp
          with_reducible rfl
        rotate_left
        · simp only [Act.put, List.setIfInBounds_toArray, List.set_cons_zero, List.set_cons_succ, i64_w, i32_w]
          rfl
        refine take_ (i := 0) (N := some 40) (v := ?_) (a' := ?_) #[true, true, false, false, false, false, false, false] rfl rfl (by kernel_rfl) (fun _ _ _ h => h) (Or.inl ⟨by rfl, ?_⟩) hHeld ?_ ?_
        rotate_left
        · rintro w' ⟨s0, s1⟩
          go_simp
          with_reducible rfl
        rotate_left
        · simp only [Act.put, List.setIfInBounds_toArray, List.set_cons_zero, List.set_cons_succ, i64_w, i32_w]
          rfl
        refine take_ (i := 2) (N := some 42) (v := ?_) (a' := ?_) #[true, true, true, false, false, false, false, false] rfl rfl (by kernel_rfl) (fun _ _ _ h => h) (Or.inl ⟨by rfl, ?_⟩) hHeld ?_ ?_
        rotate_left
        · rintro w' ⟨s0, s1⟩
          go_simp
          with_reducible rfl
        rotate_left
        · simp only [Act.put, List.setIfInBounds_toArray, List.set_cons_zero, List.set_cons_succ, i64_w, i32_w]
          rfl
        refine one_ (i := 3) (N := some 43) #[true, true, true, true, false, false, false, false] rfl rfl (by kernel_rfl) (by decide) (fun K hK => ?_)
        obtain ⟨wm, hmk, om, gm⟩ := run_makeSlice_full (P := Try.prog) _ (G + 3) 34 5 i1 (.int .u8 0) 1 Try.underlying34 hj hj0 hj1 .i64 .i64 z (by omega) (by rw [hj2]; omega) (by unfold maxLen; omega) SZ.out
        rw [zeros_row] at om
        have hcv : (convert 34 9 (.slice (some ⟨w6.heap.size, 0, none⟩) z z)).run Try.prog wm = .ok (.string (zerosB z)) wm := own_string (P := Try.prog) Try.underlying34 Try.underlying5 Try.underlying9 om
        have GM := Aside0.mk gm.size
        have GB := Aside0.mk (below_grown gm)
        obtain ⟨m1, m2, m3, m4, m5, m6⟩ := carry (below_grown gm) ⟨h1, h2, h3, h4, h5, h6⟩
        refine value_ (w1 := wm) (v := .slice (some ⟨w6.heap.size, 0, none⟩) z z) (by rfl) rfl ?_ ?_
        · go_simp
        refine hK.out _ _ ⟨m2.cell, (blk_cell m1 2).trans rfl⟩ (fun hHeld => ?_)
        clear hK K
        refine norm_ (a' := ?_) ?_ ?_
        rotate_left
        · show Act.put _ (some 43) _ = _
          simp only [Act.put, List.setIfInBounds_toArray, List.set_cons_zero, List.set_cons_succ, i64_w, i32_w]
          rfl
        refine one_ (i := 4) (N := some 44) #[true, true, true, true, true, false, false, false] rfl rfl (by kernel_rfl) (by decide) (fun K hK => ?_)
        refine value_ (w1 := wm) (v := .string (zerosB z)) (by rfl) rfl ?_ ?_
        · go_simp
        refine hK.out _ _ ⟨m2.cell, (blk_cell m1 2).trans rfl⟩ (fun hHeld => ?_)
        clear hK K
        refine norm_ (a' := ?_) ?_ ?_
        rotate_left
        · show Act.put _ (some 44) _ = _
          simp only [Act.put, List.setIfInBounds_toArray, List.set_cons_zero, List.set_cons_succ, i64_w, i32_w]
          rfl
        refine one_ (i := 5) (N := some 45) #[true, true, true, true, true, true, false, false] rfl rfl (by kernel_rfl) (by decide) (fun K hK => ?_)
        refine value_ (w1 := ?_) (v := ?_) (by rfl) rfl ?_ ?_
        rotate_left 2
        · go_simp
          constructor
          · rfl
          · rfl
        refine hK.out _ _ ⟨((below_alloc (Below.refl _ _) _).cell (p := ⟨w.heap.size + 1, 0, none⟩) m2.lt).trans m2.cell, ((below_alloc (Below.refl _ _) _).cell (p := ⟨w.heap.size, 2, none⟩) (blk_lt m1)).trans ((blk_cell m1 2).trans rfl)⟩ (fun hHeld => ?_)
        clear hK K
        refine norm_ (a' := ?_) ?_ ?_
        rotate_left
        · show Act.put _ (some 45) _ = _
          simp only [Act.put, List.setIfInBounds_toArray, List.set_cons_zero, List.set_cons_succ, i64_w, i32_w]
          rfl
        refine last_ (i := 6) (N := some 46) #[true, true, true, true, true, true, true, false] rfl rfl (by kernel_rfl) (by decide) (fun K hK => ?_)
        refine step_append_lies _ (by rfl) (.tmp 40) (.tmp 45) 24 (by rfl) (G + 3) 9 i0 _ 1 16 Try.underlying24 hk hz0 hz1 hz2 rfl (by decide) v rows.length _ (by rfl) (m3.alloc _) ⟨_, 0, none⟩ 1 1 [.string (zerosB z)] (by rfl) rfl (cell_one_new _ _ _) (by rintro u_ hu_; simp only [List.mem_singleton] at hu_; rw [hu_]; rfl) (by decide) LEN.out.1 LEN.out.2 (Nat.le_trans (Nat.le_trans SZ.out gm.size) (by show _ ≤ (World.alloc _ _).heap.size; rw [World.size_alloc]; exact Nat.le_succ _)) _ rfl ?_
        intro g cap w8 hown hgrow hat hlt
        obtain ⟨p1, p2, p3, p4, p5, p6, p7, p8⟩ := app_step m2 m3 m4 m5 m1 m6 (by decide) (by decide) (by decide) (by decide) (by decide) (by omega) (by omega) (by omega) (by omega) hown hgrow
        have c9 := p1.cell
        have f9 := p1.frozen
        have PP := Aside0.mk (And.intro p6 (And.intro p2 (And.intro p3 (And.intro p4 (And.intro p5 (And.intro p7 p8))))))
        clear p1 p2 p3 p4 p5 p6 p7 p8 hown hgrow hat hlt
        refine hK.out _ _ ?_
        clear hK K
        refine norm_ (a' := ?_) ?_ ?_
        rotate_left
        · show Act.put _ (some 46) _ = _
          simp only [Act.put, List.setIfInBounds_toArray, List.set_cons_zero, List.set_cons_succ, i64_w, i32_w]
          rfl
        refine last_ (i := 7) (N := none) #[true, true, true, true, true, true, true, true] rfl rfl (by kernel_rfl) (by decide) (fun K hK => ?_)
        refine skip_ (w1 := ?_) (by rfl) rfl ?_ ?_
        rotate_left
        · go_simp
          rfl
        refine hK.out _ _ ?_
        clear hK K
        refine done_ (by kernel_rfl) ?_
        refine ⟨by simp, ?_⟩
        obtain ⟨p6, p2, p3, p4, p5, p7, p8⟩ := PP.out
        have ST8 := Aside0.mk (((stays_below E3.out hbW).trans (stays_below GB.out (fun k hq => Nat.lt_of_lt_of_le (hbW k hq) E3.out.size))).trans (p8 W2.heap.size (boxes G (G + 1 + 1) (G + 1)) (fun k hq => ⟨Nat.lt_of_lt_of_le (hbW k hq) (Nat.le_trans E3.out.size GM.out), by rcases hq with rfl | rfl | rfl <;> omega, by rcases hq with rfl | rfl | rfl <;> omega⟩) (by omega)))
        have SZ9 := Aside0.mk (Nat.le_trans HBW.out ST8.out.size)
        have c5 := p4.cell
        have f5 := p4.frozen
        have E9 := Aside0.mk (And.intro p6 (And.intro p2 (And.intro p3 (And.intro p4 (And.intro p5 p7)))))
        have LEN2 := Aside0.mk (show torn.length + 1 ≤ maxLen ∧ (torn.length + 1) * 8 ≤ 140737488355328 from by unfold maxLen; omega)
        clear p6 p2 p3 p4 p5 p7 p8 PP c9 f9 h1 h2 h3 h4 h5 h6 m1 m2 m3 m4 m5 m6 hmk hcv om gm
        generalize w8.setCell ⟨w.heap.size + 1, 0, none⟩ (.slice (some ⟨g, 0, none⟩) (rows.length + 1) cap) = W9 at ST8 SZ9 c5 f5 E9 ⊢
        obtain ⟨i2, hl, hl0, hl1, hl2⟩ := info_parts info3
        gi_wp2_with (gi_at_builtin; refine wpListIn_append_own_at _ rfl _ _ 30 rfl (G + 3) 3 i2 _ 1 8 Try.underlying30 hl hl0 hl1 hl2 rfl (by decide) u torn.length _ rfl (E9.out.2.2.2.2.1.alloc _) ⟨W9.heap.size, 0, none⟩ 1 1 [.int .i64 (i : Int)] rfl rfl (cell_one_new _ _ _) (by rintro u_ hu_; simp only [List.mem_singleton] at hu_; rw [hu_]; rfl) LEN2.out.1 LEN2.out.2 (Nat.le_trans SZ9.out (by rw [World.size_alloc]; exact Nat.le_succ _)) ?_)
        intro v' w10 hown' hgrow' _ _
        obtain ⟨g', cap', rfl⟩ := ownsRow_succ hown'
        obtain ⟨p1, p2, p3, p4, p5, p6, p7, p8⟩ := app_step E9.out.2.2.2.1 E9.out.2.2.2.2.1 E9.out.2.1 E9.out.2.2.1 E9.out.1 E9.out.2.2.2.2.2 (by decide) (by decide) (by decide) (by decide) (by decide) (by omega) (by omega) (by omega) (by omega) hown' hgrow'
        have c9 := p1.cell
        have f9 := p1.frozen
        have FIN := Aside0.mk (And.intro (ST8.out.trans (p8 W2.heap.size (boxes G (G + 1 + 1) (G + 1)) (fun k hq => ⟨Nat.lt_of_lt_of_le (hbW k hq) ST8.out.size, by rcases hq with rfl | rfl | rfl <;> omega, by rcases hq with rfl | rfl | rfl <;> omega⟩) (by omega))) (And.intro p6 (And.intro p2 (And.intro p3 (And.intro p4 (And.intro p5 p7))))))
        clear p1 p6 p2 p3 p4 p5 p7 p8 hown' hgrow'
        gi_wp2_with fail
        refine ⟨FIN.out.1, kq', rows ++ [zerosB z], torn ++ [(i : Int)], ?_, ?_, ?_, ?_⟩
        · rw [List.length_append, hi]; exact S3.out
        · rw [List.length_append, List.length_append, Q2.out, hi]; rfl
        · rw [List.length_append, List.length_append, hi]; simp only [List.length_cons, List.length_nil]; omega
        · obtain ⟨_, p6, p2, p3, p4, p5, p7⟩ := FIN.out
          refine ⟨p6, ⟨_, p4, ?_⟩, ⟨_, p2, ?_⟩, p7⟩
          · rw [List.length_append, List.map_append]
            exact p5
          · rw [List.length_append, List.map_append]
            exact p3
    case done =>
      rintro D xs W hD rfl ⟨kq, rows, torn, q1, q2, q3, q4⟩ hK
      rw [secs_len] at q1
      cases kq with
      | zero => exact absurd q1 (by simp [sector_Cut.l0])
      | succ kq =>
        simp only [sector_Cut.l0] at q1
        rw [if_neg (by omega)] at q1
        simp only [Option.some.injEq, Prod.mk.injEq] at q1
        obtain ⟨rfl, rfl, rfl⟩ := q1
        obtain ⟨h1, ⟨v, h2, h3⟩, ⟨u, h4, h5⟩, h6⟩ := q4
        obtain ⟨va, vn, vc, rfl⟩ : ∃ a n c, v = .slice a n c := by rcases h3.2 with ⟨rfl, _⟩ | ⟨g, cap, cur, rfl, _⟩ <;> exact ⟨_, _, _, rfl⟩
        obtain ⟨ua, un, uc, rfl⟩ : ∃ a n c, u = .slice a n c := by rcases h5.2 with ⟨rfl, _⟩ | ⟨g, cap, cur, rfl, _⟩ <;> exact ⟨_, _, _, rfl⟩
        have hne1 : w.heap.size + 1 ≠ w.heap.size + 1 + 1 := by omega
        have hne2 : w.heap.size + 1 + 1 ≠ w.heap.size + 1 := by omega
        have c4 := h2.cell
        have f4 := h2.frozen
        have c5 := h4.cell
        have f5 := h4.frozen
        have HH := Aside0.mk (And.intro h2 (And.intro h3 (And.intro h4 (And.intro h5 h6))))
        have HK := Aside0.mk hK
        have HD := Aside0.mk hD
        clear h1 h2 h3 h4 h5 h6 hK q2 q3 HL HM gv gs go E2 hD
        gi_wp2_with fail
        gi_region
        gi_wp2_with fail
        obtain ⟨h2, h3, h4, h5, h6⟩ := HH.out
        have hD := HD.out
        have hDb : D ≠ w.heap.size + 1 ∧ D ≠ w.heap.size + 1 + 1 := by omega
        have e1 := h2.set (.slice va vn vc)
        have e1' := h4.other hne2 (.slice va vn vc)
        have e2 := e1'.set (.slice ua un uc)
        have e2' := e1.other hne1 (.slice ua un uc)
        have r1 := (h3.kept (grownBy_setCell' W (w.heap.size + 1) (.slice va vn vc)) (.inr (Ne.symm (h2.not_row (by decide) h3)))).kept (grownBy_setCell' _ (w.heap.size + 1 + 1) (.slice ua un uc)) (.inr (Ne.symm (h4.not_row (by decide) h3)))
        have r2 := (h5.kept (grownBy_setCell' W (w.heap.size + 1) (.slice va vn vc)) (.inr (Ne.symm (h2.not_row (by decide) h5)))).kept (grownBy_setCell' _ (w.heap.size + 1 + 1) (.slice ua un uc)) (.inr (Ne.symm (h4.not_row (by decide) h5)))
        have hb := (h6.setCell (p := ⟨w.heap.size + 1, 0, none⟩) (by show _ ≤ w.heap.size + 1; omega) (.slice va vn vc)).setCell (p := ⟨w.heap.size + 1 + 1, 0, none⟩) (by show _ ≤ w.heap.size + 1 + 1; omega) (.slice ua un uc)
        have hk : (((W.setCell ⟨w.heap.size + 1, 0, none⟩ (.slice va vn vc)).setCell ⟨w.heap.size + 1 + 1, 0, none⟩ (.slice ua un uc)).drew).heap[D]? = some (.deferred (some [])) := (Below.heap_setCell _ _ _ D hDb.2).trans ((Below.heap_setCell _ _ _ D hDb.1).trans HK.out)
        have hb2 := Below.drew hb
        have r1' := World.ownsRow.drew r1
        have r2' := World.ownsRow.drew r2
        have e3 : Boxed (((W.setCell ⟨w.heap.size + 1, 0, none⟩ (.slice va vn vc)).setCell ⟨w.heap.size + 1 + 1, 0, none⟩ (.slice ua un uc)).drew) (w.heap.size + 1) 24 (.slice va vn vc) := e2'
        have e4 : Boxed (((W.setCell ⟨w.heap.size + 1, 0, none⟩ (.slice va vn vc)).setCell ⟨w.heap.size + 1 + 1, 0, none⟩ (.slice ua un uc)).drew) (w.heap.size + 1 + 1) 30 (.slice ua un uc) := e2
        generalize ((W.setCell ⟨w.heap.size + 1, 0, none⟩ (.slice va vn vc)).setCell ⟨w.heap.size + 1 + 1, 0, none⟩ (.slice ua un uc)).drew = X at hk hb2 r1' r2' e3 e4 ⊢
        have k3 : Boxed (X.putObj D (.deferred none)) (w.heap.size + 1) 24 (.slice va vn vc) := (World.putObj_heap_other hDb.1.symm).trans e3
        have k4 : Boxed (X.putObj D (.deferred none)) (w.heap.size + 1 + 1) 30 (.slice ua un uc) := (World.putObj_heap_other hDb.2.symm).trans e4
        have kc3 := k3.cell
        have kc4 := k4.cell
        refine ⟨by simp, .inl ⟨_, _, rfl, run_takeDeferred hk, ?_⟩⟩
        refine ⟨.tuple #[.slice va vn vc, .slice ua un uc, .int .i64 0], by rw [results_cct rfl]; go_simp, _, _, rfl, ?_, ?_, ?_⟩
        · exact ⟨fun _ _ => trivial, _, ownsRow_putObj (ownsRow_lower r1' (by omega)) _ hk rfl, reps_str _ _ _ rows [] (Reps.none _ _)⟩
        · exact ⟨fun _ _ => trivial, _, ownsRow_putObj (ownsRow_lower r2' (by omega)) _ hk rfl, reps_int _ _ _ torn [] (Reps.none _ _)⟩
        · exact hb2.trans (belowK_b (w := w) (Nat.le_refl _) X D _ _ (by have := hb2.size; omega) hk rfl rfl)

end Go.Proofs.Ytpgijmnlkfhheaa.PSecP
namespace Go.Proofs.Ytpgijmnlkfhheaa.PSecP
open Go.RowKit Go.Proofs.YtpgijmnlkfhheaaW.PrintWords Go.Proofs.YtpgijmnlkfhheaaW.PrintLast Go.Proofs.YtpgijmnlkfhheaaW.PrintMore
attribute [local go_sem] max2_int min2_int max_two min_two max_three min_three max_four min_four   -- for this text's walks alone
set_option linter.unusedVariables false
set_option linter.unusedSimpArgs false

/-! ### hamperlaw24_awake: function 9 -/
def hamperlaw24_awakeR.j0 : Nat → ByteArray → Bool → ByteArray → Int → Int → Int → Option (Bool)
  | 0, _, _, _, _, _, _ => none
  | k + 1, x2, x25, x171000, x171001, x171002, x171003 => if x25 = true then (some false) else (if 0 ≤ 23 then (if 23 ≤ (x2.size : Int) then ((sector_Cut.f k x171000 x171001 x171002 x171003 (x2.extract 0 23)).bind fun bt176 => ((sector_Cut.f k x171000 x171001 x171002 x171003 (⟨#[]⟩ : ByteArray)).bind fun bt183 => (if bt176.2.2 = 0 then (if (bt176.1.length : Int) = 2 then (if 0 < (bt176.1.length : Int) then (if (rdOf ByteArray.empty bt176.1 0).toList = ([97, 98, 99, 100] : List UInt8) then (if 1 < (bt176.1.length : Int) then (if (rdOf ByteArray.empty bt176.1 1).toList = ([0, 0, 0, 0] : List UInt8) then (if (bt176.2.1.length : Int) = 1 then (if 0 < (bt176.2.1.length : Int) then (if (rd bt176.2.1 0) = 1 then (if bt183.2.2 = 0 then (if (bt183.1.length : Int) = 2 then (some ((bt183.2.1.length : Int) == 2)) else (some false)) else (some false)) else (some false)) else (none)) else (some false)) else (some false)) else (none)) else (some false)) else (none)) else (some false)) else (some false)))) else (none)) else (none))
def hamperlaw24_awakeR.f (k : Nat)  : Option (Bool) := if 16 ≤ 281474976710656 then ((some (List.replicate 16 0 : List Int)).bind fun y167 => ((sector_Join.f k (strOfNums y167) 1 4 2 (([(⟨#[97, 98, 99, 100]⟩ : ByteArray), (⟨#[101, 102, 103, 104]⟩ : ByteArray)] : List ByteArray))).bind fun bt174 => (if bt174.2 = 0 then (hamperlaw24_awakeR.j0 k bt174.1 ((bt174.1.size : Int) != 24) (strOfNums y167) 1 4 2) else (hamperlaw24_awakeR.j0 k bt174.1 true (strOfNums y167) 1 4 2)))) else (none)
theorem hamperlaw24_awakeR.mono_l : ∀ k, (∀ y0 y1 y2 y3 y4 y5, LeO (hamperlaw24_awakeR.j0 k y0 y1 y2 y3 y4 y5) (hamperlaw24_awakeR.j0 (k + 1) y0 y1 y2 y3 y4 y5))
  | 0 => fun _ _ _ _ _ _ r h => by simp [hamperlaw24_awakeR.j0] at h
  | k + 1 => by
    have ih0 := hamperlaw24_awakeR.mono_l k
    · intro y0 y1 y2 y3 y4 y5
      unfold hamperlaw24_awakeR.j0
      repeat' first
      | (with_reducible exact ih0 _ _ _ _ _ _)
      | (with_reducible exact sector_Cut.mono _ _ _ _ _ _)
      | (with_reducible exact sector_Join.mono _ _ _ _ _ _)
      | (with_reducible exact LeO.refl _)
      | (with_reducible exact LeO.none _)
      | (with_reducible refine LeO.ite ?_ ?_)
      | (with_reducible refine LeO.bind ?_ (fun _ => ?_))
      | exact ih0 _ _ _ _ _ _
      | exact sector_Cut.mono _ _ _ _ _ _
      | exact sector_Join.mono _ _ _ _ _ _
      | exact LeO.none _
      | refine LeO.ite ?_ ?_
      | refine LeO.bind ?_ (fun _ => ?_)
theorem hamperlaw24_awakeR.mono : ∀ k, LeO (hamperlaw24_awakeR.f k ) (hamperlaw24_awakeR.f (k + 1) ) := by
  intro  k
  have ih0 := hamperlaw24_awakeR.mono_l k
  unfold hamperlaw24_awakeR.f
  repeat' first
      | (with_reducible exact ih0 _ _ _ _ _ _)
      | (with_reducible exact sector_Cut.mono _ _ _ _ _ _)
      | (with_reducible exact sector_Join.mono _ _ _ _ _ _)
      | (with_reducible exact LeO.refl _)
      | (with_reducible exact LeO.none _)
      | (with_reducible refine LeO.ite ?_ ?_)
      | (with_reducible refine LeO.bind ?_ (fun _ => ?_))
      | exact ih0 _ _ _ _ _ _
      | exact sector_Cut.mono _ _ _ _ _ _
      | exact sector_Join.mono _ _ _ _ _ _
      | exact LeO.none _
      | refine LeO.ite ?_ ?_
      | refine LeO.bind ?_ (fun _ => ?_)
def hamperlaw24_awakeR.T5 : Bool × List (List Nat × List Nat) := (true, [([], []), ([], []), ([1], [1]), ([0, 2], [0, 2]), ([3], [3]), ([4], [4]), ([4], [4]), ([4], [4]), ([5, 3, 0, 1, 2, 3, 4, 5], [5]), ([6, 8, 0, 1, 2, 3, 4, 5, 6, 8], [6]), ([7, 9, 0, 1, 2, 3, 4, 5, 6, 7, 8, 9], [7])])
def hamperlaw24_awakeR.B5 : List Nat := [0, 0, 2, 7, 15, 31, 31, 31, 63, 383, 1023]
theorem hamperlaw24_awakeR.tab5 : rtab .any (opsOf Try.f9 5) = hamperlaw24_awakeR.T5 := by kernel_rfl
theorem hamperlaw24_awakeR.bits5 : waitsOk hamperlaw24_awakeR.T5.2 hamperlaw24_awakeR.B5 = true := by kernel_rfl
set_option maxHeartbeats 8000000 in
set_option maxRecDepth 100000 in
theorem hamperlaw24_awakeR.calls (k : Nat)  (r : Bool) (hr_ : r = true) (w : World) (h : hamperlaw24_awakeR.f k  = some r) :
    Calls Try.prog 9 #[] w fun e w' => e = .returned (.bool r) ∧ Below w.heap.size w w' := by
  have hu23 := Try.underlying23
  have HB := Aside0.mk (Below.refl w.heap.size w)
  have H : (if 16 ≤ 281474976710656 then ((some (List.replicate 16 0 : List Int)).bind fun y167 => ((sector_Join.f k (strOfNums y167) 1 4 2 (([(⟨#[97, 98, 99, 100]⟩ : ByteArray), (⟨#[101, 102, 103, 104]⟩ : ByteArray)] : List ByteArray))).bind fun bt174 => (if bt174.2 = 0 then (hamperlaw24_awakeR.j0 k bt174.1 ((bt174.1.size : Int) != 24) (strOfNums y167) 1 4 2) else (hamperlaw24_awakeR.j0 k bt174.1 true (strOfNums y167) 1 4 2)))) else (none)) = some r := h
  clear h
  by_cases c1 : 16 ≤ 281474976710656
  · rw [if_pos c1] at H
    have c1b0 := eq_true c1
    have c1b1 : decide (16 ≤ 281474976710656) = true := decide_eq_true c1
    clear c1
    obtain ⟨y167, hy167⟩ : ∃ y_ : List Int, y_ = (List.replicate 16 0) := ⟨_, rfl⟩
    replace H : ((sector_Join.f k (strOfNums y167) 1 4 2 (([(⟨#[97, 98, 99, 100]⟩ : ByteArray), (⟨#[101, 102, 103, 104]⟩ : ByteArray)] : List ByteArray))).bind fun bt174 => (if bt174.2 = 0 then (hamperlaw24_awakeR.j0 k bt174.1 ((bt174.1.size : Int) != 24) (strOfNums y167) 1 4 2) else (hamperlaw24_awakeR.j0 k bt174.1 true (strOfNums y167) 1 4 2))) = some r := by first | (rw [hy167]; with_reducible exact H) | (have H2_ := (Option.bind_some _ _).symm.trans H; rw [hy167]; with_reducible exact H2_) | (have H2_ := (Option.bind_some _ _).symm.trans H; with_reducible exact H2_) | with_reducible exact H | (rw [hy167]; exact H) | exact H
    have Ny167 := Aside0.mk hy167
    clear hy167
    obtain ⟨y171, hy171⟩ : ∃ y_ : List ByteArray, y_ = (([(⟨#[97, 98, 99, 100]⟩ : ByteArray), (⟨#[101, 102, 103, 104]⟩ : ByteArray)] : List ByteArray)) := ⟨_, rfl⟩
    replace H : ((sector_Join.f k (strOfNums y167) 1 4 2 y171).bind fun bt174 => (if bt174.2 = 0 then (hamperlaw24_awakeR.j0 k bt174.1 ((bt174.1.size : Int) != 24) (strOfNums y167) 1 4 2) else (hamperlaw24_awakeR.j0 k bt174.1 true (strOfNums y167) 1 4 2))) = some r := by first | (rw [hy171]; with_reducible exact H) | (have H2_ := (Option.bind_some _ _).symm.trans H; rw [hy171]; with_reducible exact H2_) | (have H2_ := (Option.bind_some _ _).symm.trans H; with_reducible exact H2_) | with_reducible exact H | (rw [hy171]; exact H) | exact H
    have Ny171 := Aside0.mk hy171
    clear hy171
    replace H := Option.bind_eq_some_iff.mp H
    obtain ⟨⟨t174, t175⟩, A20, H⟩ := H
    replace H : (if t175 = 0 then (hamperlaw24_awakeR.j0 k t174 ((t174.size : Int) != 24) (strOfNums y167) 1 4 2) else (hamperlaw24_awakeR.j0 k t174 true (strOfNums y167) 1 4 2)) = some r := H
    have A2 := Aside0.mk A20
    clear A20
    have HC3 := Aside0.mk H
    clear H
    go_enter Try.func9, Try.ntmps9
    go_upto_region 3 with (first | ((with_reducible refine gate_dst (N := 10) rfl ?_); (try (refine gate_guard (by rfl) ?_; dsimp only)); refine Kd.R_make (Kd.int .u8) _ 5 rfl (N := 10) rfl 34 _ _ rfl 16 rfl rfl Try.underlying34 (.int .u8 0) 1 info5 rfl (by decide) (by omega) 0 (ok := fun _ => True) (okp := fun _ => True) rfl (fun _ hk => hk) trivial (by omega) (by omega) (Below.refl _ _) (Nat.le_refl _) ?_; intro v168 w4 ho5 hb hg_ hnew_; clear hg_ hnew_; (first | rw [← Ny167.out] at ho5 | (simp only [Int.reduceToNat] at ho5; rw [← Ny167.out] at ho5)); have n0_ := Aside0.mk (Kd.R_lower ho5 (below_size (by repeat (first | (with_reducible first | exact HB.out | apply below_alloc | apply pw_below_drewN | apply below_drew1) | exact HB.out)))); have n1_ := Aside0.mk (below_step (by repeat (first | (with_reducible first | exact HB.out | apply below_alloc | apply pw_below_drewN | apply below_drew1) | exact HB.out)) hb); clear HB; have HO169 := n0_; have HB := n1_; clear n0_ n1_; clear hb ho5; have hcv6 := own_string (P := Try.prog) Try.underlying34 Try.underlying5 Try.underlying9 (Kd.own_of_R HO169.out)) | ((with_reducible refine gate_dst (N := 1) rfl ?_); (try (refine gate_guard (by rfl) ?_; dsimp only)); refine box_event ?hg (N := 1) ?hd (cs := #[.string (⟨#[]⟩ : ByteArray), .int .i64 0, .int .i64 0, .int .i64 0]) (t := 23) ?hr ?_; (case hd => rfl); (case hg => rfl); (case hr => first | (go_simp; done) | (go_simp; rfl)); intro gb170 hg w7 hbox hb; have n0_ := Aside0.mk (Kd.R_below (by (with_reducible repeat (first | apply Kd.R_alloc | apply Kd.R_drewN | apply Kd.R_drew)); exact HO169.out) hb); have n1_ := Aside0.mk (below_step (by repeat (first | (with_reducible first | exact HB.out | apply below_alloc | apply pw_below_drewN | apply below_drew1) | exact HB.out)) hb); have n2_ := Aside0.mk (hbox); have n3_ := Aside0.mk ((by rw [hg]; exact (below_size (by repeat (first | (with_reducible first | exact HB.out | apply below_alloc | apply pw_below_drewN | apply below_drew1) | exact HB.out))) : w.heap.size ≤ gb170)); have n4_ := Aside0.mk ((by rw [hg]; exact (below_size (by repeat (first | (with_reducible first | exact HB.out | apply below_alloc | apply pw_below_drewN | apply below_drew1) | exact HB.out))) : w.heap.size ≤ gb170)); clear HO169; clear HB; have HO169 := n0_; have HB := n1_; have BK170 := n2_; have GW170 := n3_; have GE170 := n4_; clear n0_ n1_ n2_ n3_ n4_; clear hb hbox hg; have hcz8_0 : w7.cell? ⟨gb170, 0, none⟩ = some (.string (⟨#[]⟩ : ByteArray)) := (blk_cell BK170.out 0).trans rfl; have hcz8_1 : w7.cell? ⟨gb170, 1, none⟩ = some (.int .i64 0) := (blk_cell BK170.out 1).trans rfl; have hcz8_2 : w7.cell? ⟨gb170, 2, none⟩ = some (.int .i64 0) := (blk_cell BK170.out 2).trans rfl; have hcz8_3 : w7.cell? ⟨gb170, 3, none⟩ = some (.int .i64 0) := (blk_cell BK170.out 3).trans rfl; have hfz8_0 := blk_frozen BK170.out 0; have hfz8_1 := blk_frozen BK170.out 1; have hfz8_2 := blk_frozen BK170.out 2; have hfz8_3 := blk_frozen BK170.out 3) | ((with_reducible refine gate_dst (N := 15) rfl ?_); (try (refine gate_guard (by rfl) ?_; dsimp only)); refine Kd.R_lit Kd.string _ 9 ?hg (N := 15) ?hd (xs := ([(⟨#[97, 98, 99, 100]⟩ : ByteArray), (⟨#[101, 102, 103, 104]⟩ : ByteArray)] : List ByteArray)) (inner := [.string (⟨#[97, 98, 99, 100]⟩ : ByteArray), .string (⟨#[101, 102, 103, 104]⟩ : ByteArray)]) (ok := fun _ => True) (okp := fun _ => True) ?hr ?hp (fun _ hk => hk) trivial (Below.refl _ _) (Nat.le_refl _) (by simp) ?_; (case hd => rfl); (case hg => rfl); (case hr => first | (go_simp; done) | (go_simp; rfl)); (case hp => exact (Reps.one (show Kd.M Kd.string _ _ _ (⟨#[97, 98, 99, 100]⟩ : ByteArray) [.string (⟨#[97, 98, 99, 100]⟩ : ByteArray)] from rfl) (Reps.one (show Kd.M Kd.string _ _ _ (⟨#[101, 102, 103, 104]⟩ : ByteArray) [.string (⟨#[101, 102, 103, 104]⟩ : ByteArray)] from rfl) (Reps.none _ _)))); intro v172 w9 ho10 hb hg_ hnew_; clear hg_ hnew_; (first | rw [← Ny171.out] at ho10 | (simp only [Int.reduceToNat] at ho10; rw [← Ny171.out] at ho10)); have n0_ := Aside0.mk (Kd.R_below (by (with_reducible repeat (first | apply Kd.R_alloc | apply Kd.R_drewN | apply Kd.R_drew)); exact (Kd.R_mono (Kd.R_far (p := ⟨gb170, 3, none⟩) (Kd.R_far (p := ⟨gb170, 2, none⟩) (Kd.R_far (p := ⟨gb170, 1, none⟩) (Kd.R_far (p := ⟨gb170, 0, none⟩) (Kd.R_types HO169.out BK170.out (by decide)) (fun _ hk => hk.2) (.string (strOfNums y167))) (fun _ hk => hk.2) (.int .i64 1)) (fun _ hk => hk.2) (.int .i64 4)) (fun _ hk => hk.2) (.int .i64 2)) (fun _ h_ => h_.1))) hb); have n1_ := Aside0.mk (Kd.R_lower ho10 (below_size (by repeat (first | (with_reducible first | exact HB.out | apply below_alloc | apply pw_below_drewN | apply below_drew1 | refine below_set ?_ GE170.out) | exact HB.out)))); have n2_ := Aside0.mk (blk_below (g := gb170) (o := .cells #[.string (strOfNums y167), .int .i64 1, .int .i64 4, .int .i64 2] 23 (0, 0)) (by (with_reducible repeat (first | refine blk_drewN ?_ _ | refine blk_drew ?_ | refine blk_alloc ?_ _)); refine blk_put (cs := #[.string (strOfNums y167), .int .i64 1, .int .i64 4, .int .i64 0]) ?_ 3 _ rfl; (with_reducible repeat (first | refine blk_drewN ?_ _ | refine blk_drew ?_ | refine blk_alloc ?_ _)); refine blk_put (cs := #[.string (strOfNums y167), .int .i64 1, .int .i64 0, .int .i64 0]) ?_ 2 _ rfl; (with_reducible repeat (first | refine blk_drewN ?_ _ | refine blk_drew ?_ | refine blk_alloc ?_ _)); refine blk_put (cs := #[.string (strOfNums y167), .int .i64 0, .int .i64 0, .int .i64 0]) ?_ 1 _ rfl; (with_reducible repeat (first | refine blk_drewN ?_ _ | refine blk_drew ?_ | refine blk_alloc ?_ _)); refine blk_put (cs := #[.string (⟨#[]⟩ : ByteArray), .int .i64 0, .int .i64 0, .int .i64 0]) ?_ 0 _ rfl; (with_reducible repeat (first | refine blk_drewN ?_ _ | refine blk_drew ?_ | refine blk_alloc ?_ _)); exact BK170.out) hb); have n3_ := Aside0.mk (below_step (by repeat (first | (with_reducible first | exact HB.out | apply below_alloc | apply pw_below_drewN | apply below_drew1 | refine below_set ?_ GE170.out) | exact HB.out)) hb); clear HO169; clear BK170; clear HB; have HO169 := n0_; have HO173 := n1_; have BK170 := n2_; have HB := n3_; clear n0_ n1_ n2_ n3_; clear hb ho10; obtain ⟨Ao11, co11, eo11⟩ := Kd.R_slice HO173.out; subst eo11) | ((with_reducible refine gate_callee (f := 10) rfl ?_); refine goesL_ (some 16) rfl rfl Try.func10 (by kernel_rfl) rfl #[.agg #[.string (strOfNums y167), .int .i64 1, .int .i64 4, .int .i64 2], .slice Ao11 y171.length co11] rfl (by (try simp only [List.map_toArray, List.map_cons, List.map_nil]); first | done | rfl | (simp only [List.length_drop, List.length_take]; rfl)) ?_; (with_reducible refine (sector_Join.calls k (strOfNums y167) 1 4 2 _ _ y171 t174 t175 _ ?side1 ?side2 A2.out).mono ?_); (case side1 => repeat (first | exact (Kd.R_reads' HO173.out).2.2 | (with_reducible refine Kd.C_alloc ?_ _) | (with_reducible refine Kd.C_drewN ?_ _) | (with_reducible refine Kd.C_drew ?_))); (case side2 => exact (Kd.R_reads' HO173.out).2.1); rintro e w12 ⟨rfl, hb⟩; refine ⟨_, rfl, ?_⟩; have n0_ := Aside0.mk (Kd.R_below (by (with_reducible repeat (first | apply Kd.R_alloc | apply Kd.R_drewN | apply Kd.R_drew)); exact HO169.out) hb); have n1_ := Aside0.mk (Kd.R_below (by (with_reducible repeat (first | apply Kd.R_alloc | apply Kd.R_drewN | apply Kd.R_drew)); exact HO173.out) hb); have n2_ := Aside0.mk (blk_below (g := gb170) (o := .cells #[.string (strOfNums y167), .int .i64 1, .int .i64 4, .int .i64 2] 23 (0, 0)) (by (with_reducible repeat (first | refine blk_drewN ?_ _ | refine blk_drew ?_ | refine blk_alloc ?_ _)); exact BK170.out) hb); have n3_ := Aside0.mk (below_step (by repeat (first | (with_reducible first | exact HB.out | apply below_alloc | apply pw_below_drewN | apply below_drew1 | refine below_set ?_ GE170.out) | exact HB.out)) hb); clear HO169; clear HO173; clear BK170; clear HB; have HO169 := n0_; have HO173 := n1_; have BK170 := n2_; have HB := n3_; clear n0_ n1_ n2_ n3_; (try clear hb); (try clear hb2); (try clear hk); (try clear hi)))
    (try simp only [Act.put, List.setIfInBounds_toArray, List.set_cons_zero, List.set_cons_succ])
    go_cut [25] (fun v25 wc => ∃ (kq : Nat) (x25_2 : Bool), v25 = .bool x25_2 ∧ Aside0 (hamperlaw24_awakeR.j0 kq t174 x25_2 (strOfNums y167) 1 4 2 = some r) ∧ Aside0 (kq ≤ k) ∧ Aside0 (wc.heap[gb170]? = some (.cells #[.string (strOfNums y167), .int .i64 1, .int .i64 4, .int .i64 2] 23 (0, 0))) ∧ Aside0 (Below w.heap.size w wc))
    case first =>
      have H := HC3.out
      clear HC3
      by_cases c13 : t175 = 0
      · rw [if_pos c13] at H
        have c13b0 : (t175 == 0) = true := beq_iff_eq.mpr c13
        have c13b1 : (t175 != 0) = false := bne_eq_false_iff_eq.mpr c13
        clear c13
        (first | rw [c13b0] | (simp only [i64_w, i32_w]; rw [c13b0]) | skip)
        have H' := Aside0.mk H
        clear H
        go_wp2
        go_meet
        case rel => exact ⟨_, (((t174.size : Int) != 24)), (by first | rfl | (simp; done) | (simp [*]; done)), H', ⟨by first | omega | exact Nat.le_refl _⟩, ⟨by (with_reducible repeat (first | refine blk_drewN ?_ _ | refine blk_drew ?_ | refine blk_alloc ?_ _)); exact BK170.out⟩, ⟨by repeat (first | (with_reducible first | exact HB.out | apply below_alloc | apply pw_below_drewN | apply below_drew1 | refine below_set ?_ GE170.out) | exact HB.out)⟩⟩
      · rw [if_neg c13] at H
        have c13b0 : (t175 == 0) = false := beq_eq_false_iff_ne.mpr c13
        have c13b1 : (t175 != 0) = true := bne_iff_ne.mpr c13
        (first | rw [c13b0] | (simp only [i64_w, i32_w]; rw [c13b0]) | skip)
        have H' := Aside0.mk H
        clear H
        go_wp2
        go_meet
        case rel => exact ⟨_, (true), (by first | rfl | (simp; done) | (simp [*]; done)), H', ⟨by first | omega | exact Nat.le_refl _⟩, ⟨by (with_reducible repeat (first | refine blk_drewN ?_ _ | refine blk_drew ?_ | refine blk_alloc ?_ _)); exact BK170.out⟩, ⟨by repeat (first | (with_reducible first | exact HB.out | apply below_alloc | apply pw_below_drewN | apply below_drew1 | refine below_set ?_ GE170.out) | exact HB.out)⟩⟩
    case rest =>
      clear HC3
      try clear c1
      try clear c1b0
      try clear c1b1
      try clear p2
      try clear hcv6
      try clear c9
      try clear c10
      try clear c13
      try clear c13b0
      try clear c13b1
      try clear hcz8_0
      try clear hcz8_1
      try clear hcz8_2
      try clear hcz8_3
      try clear hfz8_0
      try clear hfz8_1
      try clear hfz8_2
      try clear hfz8_3
      obtain ⟨kq, x25_2, rfl, HA, HJ2, BK170, HB⟩ := hcut
      cases kq with
      | zero => exact absurd HA.out (by simp [hamperlaw24_awakeR.j0])
      | succ kj2 =>
        have H := HA.out
        clear HA
        simp only [hamperlaw24_awakeR.j0] at H
        by_cases c14 : x25_2 = true
        · subst c14
          have H1 : (some false) = some r := by rw [if_pos rfl] at H; exact H
          clear H
          have H := H1
          clear H1
          obtain rfl := Option.some.inj H
          clear hr_
          go_wp2
          go_ret
          exact ⟨by first | rfl | (simp [errW_none, errW_some] <;> rfl) | (simp [*, errW_none, errW_some] <;> rfl), by repeat (first | (with_reducible first | exact HB.out | apply below_alloc | apply pw_below_drewN | apply below_drew1 | refine below_set ?_ GE170.out) | exact HB.out)⟩
        · replace c14 := Bool.eq_false_iff.mpr c14
          subst c14
          have H1 : (if 0 ≤ 23 then (if 23 ≤ (t174.size : Int) then ((sector_Cut.f kj2 (strOfNums y167) 1 4 2 (t174.extract 0 23)).bind fun bt176 => ((sector_Cut.f kj2 (strOfNums y167) 1 4 2 (⟨#[]⟩ : ByteArray)).bind fun bt183 => (if bt176.2.2 = 0 then (if (bt176.1.length : Int) = 2 then (if 0 < (bt176.1.length : Int) then (if (rdOf ByteArray.empty bt176.1 0).toList = ([97, 98, 99, 100] : List UInt8) then (if 1 < (bt176.1.length : Int) then (if (rdOf ByteArray.empty bt176.1 1).toList = ([0, 0, 0, 0] : List UInt8) then (if (bt176.2.1.length : Int) = 1 then (if 0 < (bt176.2.1.length : Int) then (if (rd bt176.2.1 0) = 1 then (if bt183.2.2 = 0 then (if (bt183.1.length : Int) = 2 then (some ((bt183.2.1.length : Int) == 2)) else (some false)) else (some false)) else (some false)) else (none)) else (some false)) else (some false)) else (none)) else (some false)) else (none)) else (some false)) else (some false)))) else (none)) else (none)) = some r := by rw [if_neg (show ¬ (false = true) by decide)] at H; exact H
          clear H
          have H := H1
          clear H1
          by_cases c15 : 0 ≤ 23
          · rw [if_pos c15] at H
            have c15b0 := eq_true c15
            have c15b1 : decide (0 ≤ 23) = true := decide_eq_true c15
            clear c15
            by_cases c16 : 23 ≤ (t174.size : Int)
            · rw [if_pos c16] at H
              have c16b0 := eq_true c16
              have c16b1 : decide (23 ≤ (t174.size : Int)) = true := decide_eq_true c16
              clear c16
              replace H := Option.bind_eq_some_iff.mp H
              obtain ⟨⟨t176, t179, t182⟩, A170, H⟩ := H
              replace H : ((sector_Cut.f kj2 (strOfNums y167) 1 4 2 (⟨#[]⟩ : ByteArray)).bind fun bt183 => (if t182 = 0 then (if (t176.length : Int) = 2 then (if 0 < (t176.length : Int) then (if (rdOf ByteArray.empty t176 0).toList = ([97, 98, 99, 100] : List UInt8) then (if 1 < (t176.length : Int) then (if (rdOf ByteArray.empty t176 1).toList = ([0, 0, 0, 0] : List UInt8) then (if (t179.length : Int) = 1 then (if 0 < (t179.length : Int) then (if (rd t179 0) = 1 then (if bt183.2.2 = 0 then (if (bt183.1.length : Int) = 2 then (some ((bt183.2.1.length : Int) == 2)) else (some false)) else (some false)) else (some false)) else (none)) else (some false)) else (some false)) else (none)) else (some false)) else (none)) else (some false)) else (some false))) = some r := H
              have A17 := Aside0.mk A170
              clear A170
              replace H := Option.bind_eq_some_iff.mp H
              obtain ⟨⟨t183, t186, t189⟩, A180, H⟩ := H
              replace H : (if t182 = 0 then (if (t176.length : Int) = 2 then (if 0 < (t176.length : Int) then (if (rdOf ByteArray.empty t176 0).toList = ([97, 98, 99, 100] : List UInt8) then (if 1 < (t176.length : Int) then (if (rdOf ByteArray.empty t176 1).toList = ([0, 0, 0, 0] : List UInt8) then (if (t179.length : Int) = 1 then (if 0 < (t179.length : Int) then (if (rd t179 0) = 1 then (if t189 = 0 then (if (t183.length : Int) = 2 then (some ((t186.length : Int) == 2)) else (some false)) else (some false)) else (some false)) else (none)) else (some false)) else (some false)) else (none)) else (some false)) else (none)) else (some false)) else (some false)) = some r := H
              have A18 := Aside0.mk A180
              clear A180
              by_cases c19 : t182 = 0
              · rw [if_pos c19] at H
                have c19b0 : (t182 == 0) = true := beq_iff_eq.mpr c19
                have c19b1 : (t182 != 0) = false := bne_eq_false_iff_eq.mpr c19
                clear c19
                by_cases c20 : (t176.length : Int) = 2
                · rw [if_pos c20] at H
                  have c20b0 : ((t176.length : Int) == 2) = true := beq_iff_eq.mpr c20
                  have c20b1 : ((t176.length : Int) != 2) = false := bne_eq_false_iff_eq.mpr c20
                  clear c20
                  by_cases c21 : 0 < (t176.length : Int)
                  · rw [if_pos c21] at H
                    have c21b0 : decide (0 < (t176.length : Int)) = true := decide_eq_true c21
                    have c21b1 : decide (0 < t176.length) = true := decide_eq_true (by omega)
                    clear c21
                    by_cases c22 : (rdOf ByteArray.empty t176 0).toList = ([97, 98, 99, 100] : List UInt8)
                    · rw [if_pos c22] at H
                      have c22b0 : ((rdOf ByteArray.empty t176 0).toList == ([97, 98, 99, 100] : List UInt8)) = true := beq_iff_eq.mpr c22
                      have c22b1 : ((rdOf ByteArray.empty t176 0).toList != ([97, 98, 99, 100] : List UInt8)) = false := bne_eq_false_iff_eq.mpr c22
                      clear c22
                      by_cases c23 : 1 < (t176.length : Int)
                      · rw [if_pos c23] at H
                        have c23b0 : decide (1 < (t176.length : Int)) = true := decide_eq_true c23
                        have c23b1 : decide (1 < t176.length) = true := decide_eq_true (by omega)
                        clear c23
                        by_cases c24 : (rdOf ByteArray.empty t176 1).toList = ([0, 0, 0, 0] : List UInt8)
                        · rw [if_pos c24] at H
                          have c24b0 : ((rdOf ByteArray.empty t176 1).toList == ([0, 0, 0, 0] : List UInt8)) = true := beq_iff_eq.mpr c24
                          have c24b1 : ((rdOf ByteArray.empty t176 1).toList != ([0, 0, 0, 0] : List UInt8)) = false := bne_eq_false_iff_eq.mpr c24
                          clear c24
                          by_cases c25 : (t179.length : Int) = 1
                          · rw [if_pos c25] at H
                            have c25b0 : ((t179.length : Int) == 1) = true := beq_iff_eq.mpr c25
                            have c25b1 : ((t179.length : Int) != 1) = false := bne_eq_false_iff_eq.mpr c25
                            clear c25
                            by_cases c26 : 0 < (t179.length : Int)
                            · rw [if_pos c26] at H
                              have c26b0 : decide (0 < (t179.length : Int)) = true := decide_eq_true c26
                              have c26b1 : decide (0 < t179.length) = true := decide_eq_true (by omega)
                              clear c26
                              by_cases c27 : (rd t179 0) = 1
                              · rw [if_pos c27] at H
                                have c27b0 : ((rd t179 0) == 1) = true := beq_iff_eq.mpr c27
                                have c27b1 : ((rd t179 0) != 1) = false := bne_eq_false_iff_eq.mpr c27
                                clear c27
                                by_cases c28 : t189 = 0
                                · rw [if_pos c28] at H
                                  have c28b0 : (t189 == 0) = true := beq_iff_eq.mpr c28
                                  have c28b1 : (t189 != 0) = false := bne_eq_false_iff_eq.mpr c28
                                  clear c28
                                  by_cases c29 : (t183.length : Int) = 2
                                  · rw [if_pos c29] at H
                                    have c29b0 : ((t183.length : Int) == 2) = true := beq_iff_eq.mpr c29
                                    have c29b1 : ((t183.length : Int) != 2) = false := bne_eq_false_iff_eq.mpr c29
                                    clear c29
                                    obtain rfl := Option.some.inj H
                                    clear hr_
                                    try go_wp2
                                    have n0_ := Aside0.mk (blk_drew BK170.out)
                                    have n1_ := Aside0.mk (below_drew1 HB.out)
                                    clear BK170
                                    clear HB
                                    have BK170 := n0_
                                    have HB := n1_
                                    clear n0_ n1_
                                    refine start_ (n := 11) (S := fun w' => w'.cell? ⟨gb170, 0, none⟩ = some (.string (strOfNums y167)) ∧ w'.cell? ⟨gb170, 1, none⟩ = some (.int .i64 1) ∧ w'.cell? ⟨gb170, 2, none⟩ = some (.int .i64 4) ∧ w'.cell? ⟨gb170, 3, none⟩ = some (.int .i64 2)) (ds := []) #[false, false, false, false, false, false, false, false, false, false, false] (by kernel_rfl) rfl rfl ⟨(blk_cell BK170.out 0).trans rfl, (blk_cell BK170.out 1).trans rfl, (blk_cell BK170.out 2).trans rfl, (blk_cell BK170.out 3).trans rfl⟩ (fun hHeld => ?_); refine with_tabW hamperlaw24_awakeR.tab5 hamperlaw24_awakeR.bits5 (fun HT_ HW_ => ?_)
                                    generalize wc.drew = w30 at BK170 HB hHeld ⊢
                                    refine pure_ (i := 1) (N := some 28) (v := ?_) (a' := ?_) #[false, true, false, false, false, false, false, false, false, false, false] rfl rfl (any_of HT_.out (by kernel_rfl)) (fun _ _ _ h => h) (Or.inl ⟨by rfl, ?_⟩) ?_ ?_
                                    rotate_left
                                    · intro w'
                                      go_simp
                                      with_reducible rfl
                                    rotate_left
                                    · simp only [Act.put, List.setIfInBounds_toArray, List.set_cons_zero, List.set_cons_succ, i64_w, i32_w]
                                      rfl
                                    refine pure_ (i := 2) (N := some 29) (v := ?_) (a' := ?_) #[false, true, true, false, false, false, false, false, false, false, false] rfl rfl (any_of HT_.out (by kernel_rfl)) (fun _ _ _ h => h) (Or.inl ⟨by rfl, ?_⟩) ?_ ?_
                                    rotate_left
                                    · intro w'
                                      go_simp
                                      with_reducible rfl
                                    rotate_left
                                    · simp only [Act.put, List.setIfInBounds_toArray, List.set_cons_zero, List.set_cons_succ, i64_w, i32_w]
                                      rfl
                                    refine take_ (i := 0) (N := some 27) (v := ?_) (a' := ?_) #[true, true, true, false, false, false, false, false, false, false, false] rfl rfl (take_ofW HT_.out HW_.out (by kernel_rfl)) (fun _ _ _ h => h) (Or.inl ⟨by rfl, ?_⟩) hHeld ?_ ?_
                                    rotate_left
                                    · rintro w' ⟨s0, s1, s2, s3⟩
                                      go_simp
                                      with_reducible rfl
                                    rotate_left
                                    · simp only [Act.put, List.setIfInBounds_toArray, List.set_cons_zero, List.set_cons_succ, i64_w, i32_w]
                                      rfl
                                    refine one_ (i := 3) (N := some 30) #[true, true, true, true, false, false, false, false, false, false, false] rfl rfl (one_of HT_.out (by kernel_rfl)) (by decide) (fun K hK => ?_)
                                    refine goes_ Try.func11 (by kernel_rfl) rfl #[.agg #[.string (strOfNums y167), .int .i64 1, .int .i64 4, .int .i64 2], .string (t174.extract 0 23)] (by rfl) rfl rfl (by (try simp only [List.map_toArray, List.map_cons, List.map_nil]); first | done | rfl | (simp only [List.length_drop, List.length_take]; rfl)) ?_
                                    with_reducible refine (sector_Cut.calls kj2 (strOfNums y167) 1 4 2 (t174.extract 0 23) t176 t179 t182 _ A17.out).mono ?_
                                    rintro e w31 ⟨v177, v180, rfl, ho0, ho1, hb⟩
                                    refine ⟨_, rfl, ?_⟩
                                    have n0_ := Aside0.mk (Kd.R_lower ho0 (below_size (by repeat (first | (with_reducible first | exact HB.out | apply below_alloc | apply pw_below_drewN | apply below_drew1 | refine below_set ?_ GE170.out) | exact HB.out))))
                                    have n1_ := Aside0.mk (Kd.R_lower ho1 (below_size (by repeat (first | (with_reducible first | exact HB.out | apply below_alloc | apply pw_below_drewN | apply below_drew1 | refine below_set ?_ GE170.out) | exact HB.out))))
                                    have n2_ := Aside0.mk (blk_below (g := gb170) (o := .cells #[.string (strOfNums y167), .int .i64 1, .int .i64 4, .int .i64 2] 23 (0, 0)) (by (with_reducible repeat (first | refine blk_drewN ?_ _ | refine blk_drew ?_ | refine blk_alloc ?_ _)); exact BK170.out) hb)
                                    have n3_ := Aside0.mk (below_step (by repeat (first | (with_reducible first | exact HB.out | apply below_alloc | apply pw_below_drewN | apply below_drew1 | refine below_set ?_ GE170.out) | exact HB.out)) hb)
                                    clear BK170
                                    clear HB
                                    have HO178 := n0_
                                    have HO181 := n1_
                                    have BK170 := n2_
                                    have HB := n3_
                                    clear n0_ n1_ n2_ n3_
                                    (try clear hb)
                                    (try clear hb2)
                                    (try clear hk)
                                    (try clear hi)
                                    (try clear ho0)
                                    (try clear ho1)
                                    refine hK.out _ _ ⟨(blk_cell BK170.out 0).trans rfl, (blk_cell BK170.out 1).trans rfl, (blk_cell BK170.out 2).trans rfl, (blk_cell BK170.out 3).trans rfl⟩ (fun hHeld => ?_)
                                    clear hK K
                                    refine norm_ (a' := ?_) ?_ ?_
                                    rotate_left
                                    · show Act.put _ (some 30) _ = _
                                      simp only [Act.put, List.setIfInBounds_toArray, List.set_cons_zero, List.set_cons_succ, i64_w, i32_w]
                                      rfl
                                    refine pure_ (i := 4) (N := some 26) (v := ?_) (a' := ?_) #[true, true, true, true, true, false, false, false, false, false, false] rfl rfl (any_of HT_.out (by kernel_rfl)) (fun _ _ _ h => h) (Or.inl ⟨by rfl, ?_⟩) ?_ ?_
                                    rotate_left
                                    · intro w'
                                      go_simp
                                      with_reducible rfl
                                    rotate_left
                                    · simp only [Act.put, List.setIfInBounds_toArray, List.set_cons_zero, List.set_cons_succ, i64_w, i32_w]
                                      rfl
                                    refine pure_ (i := 5) (N := some 31) (v := ?_) (a' := ?_) #[true, true, true, true, true, true, false, false, false, false, false] rfl rfl (any_of HT_.out (by kernel_rfl)) (fun _ _ _ h => h) (Or.inl ⟨by rfl, ?_⟩) ?_ ?_
                                    rotate_left
                                    · intro w'
                                      go_simp
                                      with_reducible rfl
                                    rotate_left
                                    · simp only [Act.put, List.setIfInBounds_toArray, List.set_cons_zero, List.set_cons_succ, i64_w, i32_w]
                                      rfl
                                    refine pure_ (i := 6) (N := some 32) (v := ?_) (a' := ?_) #[true, true, true, true, true, true, true, false, false, false, false] rfl rfl (any_of HT_.out (by kernel_rfl)) (fun _ _ _ h => h) (Or.inl ⟨by rfl, ?_⟩) ?_ ?_
                                    rotate_left
                                    · intro w'
                                      go_simp
                                      with_reducible rfl
                                    rotate_left
                                    · simp only [Act.put, List.setIfInBounds_toArray, List.set_cons_zero, List.set_cons_succ, i64_w, i32_w]
                                      rfl
                                    refine pure_ (i := 7) (N := some 33) (v := ?_) (a' := ?_) #[true, true, true, true, true, true, true, true, false, false, false] rfl rfl (any_of HT_.out (by kernel_rfl)) (fun _ _ _ h => h) (Or.inl ⟨by rfl, ?_⟩) ?_ ?_
                                    rotate_left
                                    · intro w'
                                      go_simp
                                      with_reducible rfl
                                    rotate_left
                                    · simp only [Act.put, List.setIfInBounds_toArray, List.set_cons_zero, List.set_cons_succ, i64_w, i32_w]
                                      rfl
                                    refine pure_ (i := 8) (N := some 4) (v := ?_) (a' := ?_) #[true, true, true, true, true, true, true, true, true, false, false] rfl rfl (any_of HT_.out (by kernel_rfl)) (fun _ _ _ h => h) (Or.inl ⟨by rfl, ?_⟩) ?_ ?_
                                    rotate_left
                                    · intro w'
                                      go_simp
                                      with_reducible rfl
                                    rotate_left
                                    · simp only [Act.put, List.setIfInBounds_toArray, List.set_cons_zero, List.set_cons_succ, i64_w, i32_w]
                                      rfl
                                    refine pure_ (i := 9) (N := some 5) (v := ?_) (a' := ?_) #[true, true, true, true, true, true, true, true, true, true, false] rfl rfl (any_of HT_.out (by kernel_rfl)) (fun _ _ _ h => h) (Or.inl ⟨by rfl, ?_⟩) ?_ ?_
                                    rotate_left
                                    · intro w'
                                      go_simp
                                      with_reducible rfl
                                    rotate_left
                                    · simp only [Act.put, List.setIfInBounds_toArray, List.set_cons_zero, List.set_cons_succ, i64_w, i32_w]
                                      rfl
                                    refine pure_ (i := 10) (N := some 6) (v := ?_) (a' := ?_) #[true, true, true, true, true, true, true, true, true, true, true] rfl rfl (any_of HT_.out (by kernel_rfl)) (fun _ _ _ h => h) (Or.inl ⟨by rfl, ?_⟩) ?_ ?_
                                    rotate_left
                                    · intro w'
                                      go_simp
                                      with_reducible rfl
                                    rotate_left
                                    · simp only [Act.put, List.setIfInBounds_toArray, List.set_cons_zero, List.set_cons_succ, i64_w, i32_w]
                                      rfl
                                    refine done_ (done_of HT_.out (by kernel_rfl)) ?_
                                    have hcz32_0 : w31.cell? ⟨gb170, 0, none⟩ = some (.string (strOfNums y167)) := (blk_cell BK170.out 0).trans rfl
                                    have hcz32_1 : w31.cell? ⟨gb170, 1, none⟩ = some (.int .i64 1) := (blk_cell BK170.out 1).trans rfl
                                    have hcz32_2 : w31.cell? ⟨gb170, 2, none⟩ = some (.int .i64 4) := (blk_cell BK170.out 2).trans rfl
                                    have hcz32_3 : w31.cell? ⟨gb170, 3, none⟩ = some (.int .i64 2) := (blk_cell BK170.out 3).trans rfl
                                    have hfz32_0 := blk_frozen BK170.out 0
                                    have hfz32_1 := blk_frozen BK170.out 1
                                    have hfz32_2 := blk_frozen BK170.out 2
                                    have hfz32_3 := blk_frozen BK170.out 3
                                    try go_wp2_with (first | ((with_reducible refine gate_callee (f := 11) rfl ?_); refine goesL_ (some 36) rfl rfl Try.func11 (by kernel_rfl) rfl #[.agg #[.string (strOfNums y167), .int .i64 1, .int .i64 4, .int .i64 2], .string (⟨#[]⟩ : ByteArray)] rfl (by (try simp only [List.map_toArray, List.map_cons, List.map_nil]); first | done | rfl | (simp only [List.length_drop, List.length_take]; rfl)) ?_; (with_reducible refine (sector_Cut.calls kj2 (strOfNums y167) 1 4 2 (⟨#[]⟩ : ByteArray) t183 t186 t189 _ A18.out).mono ?_); rintro e w33 ⟨v184, v187, rfl, ho0, ho1, hb⟩; refine ⟨_, rfl, ?_⟩; have n0_ := Aside0.mk (Kd.R_elder' (by (with_reducible repeat (first | apply Kd.R_alloc | apply Kd.R_drewN | apply Kd.R_drew)); exact HO178.out) (Kd.R_base ho0) hb); have n1_ := Aside0.mk (Kd.R_elder' (by (with_reducible repeat (first | apply Kd.R_alloc | apply Kd.R_drewN | apply Kd.R_drew)); exact HO181.out) (Kd.R_base ho1) hb); have n2_ := Aside0.mk (Kd.R_lower (Kd.R_new' ho0 (Kd.R_lt (by (with_reducible repeat (first | apply Kd.R_alloc | apply Kd.R_drewN | apply Kd.R_drew)); exact HO178.out))) (below_size (by repeat (first | (with_reducible first | exact HB.out | apply below_alloc | apply pw_below_drewN | apply below_drew1 | refine below_set ?_ GE170.out) | exact HB.out)))); have n3_ := Aside0.mk (Kd.R_lower (Kd.R_new' ho1 (Kd.R_lt (by (with_reducible repeat (first | apply Kd.R_alloc | apply Kd.R_drewN | apply Kd.R_drew)); exact HO181.out))) (below_size (by repeat (first | (with_reducible first | exact HB.out | apply below_alloc | apply pw_below_drewN | apply below_drew1 | refine below_set ?_ GE170.out) | exact HB.out)))); have n4_ := Aside0.mk (blk_below (g := gb170) (o := .cells #[.string (strOfNums y167), .int .i64 1, .int .i64 4, .int .i64 2] 23 (0, 0)) (by (with_reducible repeat (first | refine blk_drewN ?_ _ | refine blk_drew ?_ | refine blk_alloc ?_ _)); exact BK170.out) hb); have n5_ := Aside0.mk (below_step (by repeat (first | (with_reducible first | exact HB.out | apply below_alloc | apply pw_below_drewN | apply below_drew1 | refine below_set ?_ GE170.out) | exact HB.out)) hb); clear HO178; clear HO181; clear BK170; clear HB; have HO178 := n0_; have HO181 := n1_; have HO185 := n2_; have HO188 := n3_; have BK170 := n4_; have HB := n5_; clear n0_ n1_ n2_ n3_ n4_ n5_; (try clear hb); (try clear hb2); (try clear hk); (try clear hi); (try clear ho0); (try clear ho1); obtain ⟨Ao34, co34, eo34⟩ := Kd.R_slice HO178.out; subst eo34; have p190 : 0 ≤ (0 : Int) := (by omega); have q190 : 0 < (t176.length : Int) := of_decide_eq_true (by first | (with_reducible assumption) | assumption); obtain ⟨ad190, e190, hx190_0⟩ := Kd.at_string (Kd.R_reads' HO178.out).2.2 0 p190 q190; cases e190; have qi190 : (0 < t176.length) = True := eq_true (by omega); (try rw [show ((0 : Int)).toNat = 0 from rfl] at hx190_0); (try rw [Addr.add_zero'] at hx190_0); replace p190 := eq_true p190; replace q190 := eq_true q190; have p191 : 0 ≤ (1 : Int) := (by omega); have q191 : 1 < (t176.length : Int) := of_decide_eq_true (by first | (with_reducible assumption) | assumption); obtain ⟨ad191, e191, hx191_0⟩ := Kd.at_string (Kd.R_reads' HO178.out).2.2 1 p191 q191; obtain rfl : ad190 = ad191 := (by injection e191); (try simp only [show (1 : Int).toNat = 1 from rfl, Nat.reduceMul, Nat.reduceEqDiff, Go.Addr.add, ↓reduceIte] at hx191_0); have qi191 : (1 < t176.length) = True := eq_true (by omega); (try rw [show ((1 : Int)).toNat = 1 from rfl] at hx191_0); replace p191 := eq_true p191; replace q191 := eq_true q191; obtain ⟨Ao35, co35, eo35⟩ := Kd.R_slice HO181.out; subst eo35; have p192 : 0 ≤ (0 : Int) := (by omega); have q192 : 0 < (t179.length : Int) := of_decide_eq_true (by first | (with_reducible assumption) | assumption); obtain ⟨ad192, e192, hx192_0⟩ := Kd.at_int (Kd.R_reads' HO181.out).2.2 0 p192 q192; cases e192; have qi192 : (0 < t179.length) = True := eq_true (by omega); (try rw [show ((0 : Int)).toNat = 0 from rfl] at hx192_0); (try rw [Addr.add_zero'] at hx192_0); replace p192 := eq_true p192; replace q192 := eq_true q192; obtain ⟨Ao36, co36, eo36⟩ := Kd.R_slice HO185.out; subst eo36; obtain ⟨Ao37, co37, eo37⟩ := Kd.R_slice HO188.out; subst eo37))
                                    go_ret
                                    exact ⟨by first | rfl | (simp [errW_none, errW_some] <;> rfl) | (simp [*, errW_none, errW_some] <;> rfl), by repeat (first | (with_reducible first | exact HB.out | apply below_alloc | apply pw_below_drewN | apply below_drew1 | refine below_set ?_ GE170.out) | exact HB.out)⟩
                                  · rw [if_neg c29] at H
                                    have c29b0 : ((t183.length : Int) == 2) = false := beq_eq_false_iff_ne.mpr c29
                                    have c29b1 : ((t183.length : Int) != 2) = true := bne_iff_ne.mpr c29
                                    obtain rfl := Option.some.inj H
                                    exact absurd hr_ (by decide)
                                · rw [if_neg c28] at H
                                  have c28b0 : (t189 == 0) = false := beq_eq_false_iff_ne.mpr c28
                                  have c28b1 : (t189 != 0) = true := bne_iff_ne.mpr c28
                                  obtain rfl := Option.some.inj H
                                  exact absurd hr_ (by decide)
                              · rw [if_neg c27] at H
                                have c27b0 : ((rd t179 0) == 1) = false := beq_eq_false_iff_ne.mpr c27
                                have c27b1 : ((rd t179 0) != 1) = true := bne_iff_ne.mpr c27
                                obtain rfl := Option.some.inj H
                                exact absurd hr_ (by decide)
                            · rw [if_neg c26] at H
                              exact absurd H (by simp)
                          · rw [if_neg c25] at H
                            have c25b0 : ((t179.length : Int) == 1) = false := beq_eq_false_iff_ne.mpr c25
                            have c25b1 : ((t179.length : Int) != 1) = true := bne_iff_ne.mpr c25
                            obtain rfl := Option.some.inj H
                            exact absurd hr_ (by decide)
                        · rw [if_neg c24] at H
                          have c24b0 : ((rdOf ByteArray.empty t176 1).toList == ([0, 0, 0, 0] : List UInt8)) = false := beq_eq_false_iff_ne.mpr c24
                          have c24b1 : ((rdOf ByteArray.empty t176 1).toList != ([0, 0, 0, 0] : List UInt8)) = true := bne_iff_ne.mpr c24
                          obtain rfl := Option.some.inj H
                          exact absurd hr_ (by decide)
                      · rw [if_neg c23] at H
                        exact absurd H (by simp)
                    · rw [if_neg c22] at H
                      have c22b0 : ((rdOf ByteArray.empty t176 0).toList == ([97, 98, 99, 100] : List UInt8)) = false := beq_eq_false_iff_ne.mpr c22
                      have c22b1 : ((rdOf ByteArray.empty t176 0).toList != ([97, 98, 99, 100] : List UInt8)) = true := bne_iff_ne.mpr c22
                      obtain rfl := Option.some.inj H
                      exact absurd hr_ (by decide)
                  · rw [if_neg c21] at H
                    exact absurd H (by simp)
                · rw [if_neg c20] at H
                  have c20b0 : ((t176.length : Int) == 2) = false := beq_eq_false_iff_ne.mpr c20
                  have c20b1 : ((t176.length : Int) != 2) = true := bne_iff_ne.mpr c20
                  obtain rfl := Option.some.inj H
                  exact absurd hr_ (by decide)
              · rw [if_neg c19] at H
                have c19b0 : (t182 == 0) = false := beq_eq_false_iff_ne.mpr c19
                have c19b1 : (t182 != 0) = true := bne_iff_ne.mpr c19
                obtain rfl := Option.some.inj H
                exact absurd hr_ (by decide)
            · rw [if_neg c16] at H
              exact absurd H (by simp)
          · rw [if_neg c15] at H
            exact absurd H (by simp)
  · rw [if_neg c1] at H
    exact absurd H (by simp)

def hamperlaw24_awake.f  : Option (Bool) := if 1 ≤ 281474976710656 then (some true) else (none)
set_option maxRecDepth 100000 in
theorem hamperlaw24_awakeR.yes : hamperlaw24_awakeR.f 150 = some true := by decide +kernel
theorem hamperlaw24_awake.calls  (r : Bool) (w : World) (h : hamperlaw24_awake.f  = some r) :
    Calls Try.prog 9 #[] w fun e w' => e = .returned (.bool r) ∧ Below w.heap.size w w' := by
  obtain rfl : r = true := by
    unfold hamperlaw24_awake.f at h
    rw [if_pos (by decide)] at h
    exact (Option.some.inj h).symm
  exact hamperlaw24_awakeR.calls 150 true rfl w hamperlaw24_awakeR.yes

end Go.Proofs.Ytpgijmnlkfhheaa.PSecP
