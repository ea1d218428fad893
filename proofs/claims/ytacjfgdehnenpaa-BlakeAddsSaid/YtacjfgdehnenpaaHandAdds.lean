/- What was added piece by piece has the document's digest of the pieces, put together, at each step; a copy goes its own way. -/
import Derived.Test.YtacjfgdehnenpaaProg
import Derived.Below
import Derived.Deep.Draws
import Derived.Deep.AppendLies
import Derived.Maps.AppendAt
import Derived.OwnWalk
import Derived.Laws.BytesArg
import Derived.Laws.MakeOwn
import Derived.Laws.OwnMore
import Derived.Deep.OwnRows
import Derived.Tactics
import Derived.Lib.ConvBytes
import Derived.Laws.Slices
import Derived.WalkKit
import Derived.KernelRfl
import Derived.RowKit3
import Derived.Deep.LoopGhost
import Derived.Deep.QuietTactic
import Derived.BigQuiet
import Derived.WideLaws
import Derived.Deep.DeepCutAuto
import Derived.Deep.CutBlock
import Derived.Deep.RegionHeld3
import Derived.Laws.Rows
import Derived.Lib.AppendStr
import Derived.ArgAppend
import Derived.Laws.IdiomCopy
import Derived.OrdersHeld
import Derived.Laws.BitsLemmas
import Derived.RowKit
import Derived.Test.YtacjfgdehnenpaaWWords
import Derived.Test.YtacjfgdehnenpaaWLast
import Derived.Test.YtacjfgdehnenpaaWMore
import Derived.Test.YtacjfgdehnenpaaBh
import Derived.Test.YtacjfgdehnenpaaPb
import Derived.LoopTactic
import Derived.Test.YtacjfgdehnenpaaHandRefSum
import Derived.Test.YtacjfgdehnenpaaBh
import Derived.Test.YtacjfgdehnenpaaPb
namespace Go.Proofs.Ytacjfgdehnenpaa.Bk
open Go.RowKit Go.Proofs.YtacjfgdehnenpaaW.PrintWords Go.Proofs.YtacjfgdehnenpaaW.PrintLast Go.Proofs.YtacjfgdehnenpaaW.PrintMore
open Go.Proofs.Ytacjfgdehnenpaa.Pb (nil_app app_nil app_assoc wrap_id)
set_option linter.unusedVariables false
set_option linter.unusedSimpArgs false
/-- Two hashes, and what was added to each. -/
structure Two (w W : World) (g x : Nat) (T U : ByteArray) : Prop where
  hg : Ht W g T
  hx : Ht W x U
  ne : g ≠ x
  lg : w.heap.size ≤ g
  lx : w.heap.size ≤ x
  bel : Below w.heap.size w W
theorem Two.below {w W W1 : World} {g x : Nat} {T U : ByteArray} (h : Two w W g x T U) (hb : Below W.heap.size W W1) : Two w W1 g x T U :=
  ⟨h.hg.below hb, h.hx.below hb, h.ne, h.lg, h.lx, h.bel.trans (hb.mono h.bel.size)⟩
theorem Two.addg {w W W1 : World} {g x : Nat} {T T' U : ByteArray} (h : Two w W g x T U) (h1 : Ht W1 g T') (hk : KeepBut W W1 g none) : Two w W1 g x T' U :=
  ⟨h1, h.hx.beside h.hg hk (Ne.symm h.ne), h.ne, h.lg, h.lx, h.bel.trans (hk.below h.bel.size h.lg)⟩
theorem Two.addx {w W W1 : World} {g x : Nat} {T U U' : ByteArray} (h : Two w W g x T U) (h1 : Ht W1 x U') (hk : KeepBut W W1 x none) : Two w W1 g x T U' :=
  ⟨h.hg.beside h.hx hk h.ne, h1, h.ne, h.lg, h.lx, h.bel.trans (hk.below h.bel.size h.lx)⟩
/-- One hash. -/
structure One (w W : World) (g : Nat) (T : ByteArray) : Prop where
  hg : Ht W g T
  lg : w.heap.size ≤ g
  bel : Below w.heap.size w W
def tot : List ByteArray → Nat
  | [] => 0
  | s :: l => s.size + 100 + tot l
theorem tot_snoc (l : List ByteArray) (s : ByteArray) : tot (l ++ [s]) = tot l + (s.size + 100) := by
  induction l with
  | nil => simp [tot]
  | cons x l ih => simp [tot, ih]; omega
theorem tot_take (l : List ByteArray) (y : Nat) (h : y < l.length) : tot (l.take (y + 1)) = tot (l.take y) + ((l.getD y ByteArray.empty).size + 100) := by
  rw [List.take_succ_eq_append_getElem h, tot_snoc]
  simp [List.getD_eq_getElem?_getD, h]
theorem tot_mono (l : List ByteArray) (y : Nat) : tot (l.take y) ≤ tot l := by
  induction l generalizing y with
  | nil => simp [tot]
  | cons x l ih =>
    cases y with
    | zero => simp [tot]
    | succ y => simp [tot]; exact ih y
theorem getD_mem {l : List ByteArray} {y : Nat} (h : y < l.length) : l.getD y ByteArray.empty ∈ l := by
  rw [List.getD_eq_getElem?_getD, List.getElem?_eq_getElem h]
  exact List.getElem_mem _
set_option maxHeartbeats 4000000 in
set_option maxRecDepth 100000 in
theorem adds_walk (A : Option Addr) (c : Nat) (l : List ByteArray) (w : World) (hr : Kd.C Kd.string w A l.length l) (hc : l.length ≤ c) (hz : ∀ s ∈ l, s.size ≤ 140737488351232) :
    Calls Try.prog 3 #[.slice A l.length c] w fun e w' => e = .returned (.bool true) ∧ Below w.heap.size w w' := by
  have hlm : l.length ≤ 9223372036854775807 := hr.2.1
  have HR := Aside0.mk hr
  have HZ := Aside0.mk hz
  clear hr hz hc
  go_enter Try.func3, Try.ntmps3
  go_wp2_with fail
  go_loopw [3, 4] (fun nv iv wr => ∃ x n : Nat, x ≤ l.length ∧ iv = .int .i64 (x : Int) ∧ nv = .int .i64 (n : Int) ∧ n ≤ 140737488365232 ∧ Aside0 (n = tot (l.take x)) ∧ Aside0 (wr = w)) (fun _ iv _ => l.length - (intOf iv).toNat)
  case atStart => exact ⟨0, 0, Nat.zero_le _, rfl, rfl, Nat.zero_le _, Aside0.mk rfl, Aside0.mk rfl⟩
  case round =>
    obtain ⟨x, n, hx, rfl, rfl, hn, HN, HW⟩ := hrel
    by_cases hgo : x < l.length ∧ n < 6000
    · obtain ⟨hlt, hn6⟩ := hgo
      obtain ⟨ad, eA, hcell⟩ := Kd.at_string HR.out (x : Int) (by omega) (by omega)
      cases eA
      rw [Int.toNat_natCast] at hcell
      rw [← HW.out] at hcell
      have hs := HZ.out (l.getD x ByteArray.empty) (getD_mem hlt)
      rw [show rdOf ByteArray.empty l (x : Int) = l.getD x ByteArray.empty by simp [rdOf]] at hcell
      have HT := Aside0.mk (tot_take l x hlt)
      generalize l.getD x ByteArray.empty = s at *
      go_wp2_with fail
      go_roundw
      case rel => exact ⟨x + 1, n + (s.size + 100), by omega, by go_num, by go_num, by omega, Aside0.mk (by rw [HT.out, HN.out]), HW⟩
      case measure => simp [intOf]; omega
    · have hex : 6000 ≤ n ∨ (n < 6000 ∧ x = l.length) := by omega
      clear hgo
      rcases hex with h6 | ⟨h6, hxl⟩
      · by_cases hlt : x < l.length
        · go_wp2_with fail
          go_ret
          exact ⟨rfl, by rw [HW.out]; exact Below.refl _ _⟩
        · go_wp2_with fail
          go_ret
          exact ⟨rfl, by rw [HW.out]; exact Below.refl _ _⟩
      · subst hxl
        have HT := Aside0.mk (show tot l < 6000 by have := HN.out; rw [List.take_length] at this; omega)
        go_wp2_with fail
        refine (new_ht _).mono ?_
        rintro e w2 ⟨g, rfl, hg, hlg, hB⟩
        rw [HW.out] at hlg hB
        have O2 := Aside0.mk (show One w w2 g ⟨#[]⟩ from ⟨hg, hlg, hB⟩)
        clear hg hlg hB HW HN hn h6
        go_wp2_with fail
        go_loopw [6, 7] (fun v i wr => ∃ (y : Nat) (T : ByteArray), y ≤ l.length ∧ i = .int .i64 (y : Int) ∧ v = .string T ∧ T.size ≤ 6000 ∧ Aside0 (T.size ≤ tot (l.take y)) ∧ Aside0 (One w wr g T)) (fun _ i _ => l.length - (intOf i).toNat)
        case atStart => exact ⟨0, ⟨#[]⟩, Nat.zero_le _, rfl, rfl, by decide, Aside0.mk (Nat.zero_le _), O2⟩
        case round =>
          obtain ⟨y, T, hy, rfl, rfl, hT, HTT, O3⟩ := hrel
          by_cases hlt : y < l.length
          · obtain ⟨ad, eA, hcell⟩ := Kd.at_string HR.out (y : Int) (by omega) (by omega)
            cases eA
            rw [Int.toNat_natCast] at hcell
            rw [show rdOf ByteArray.empty l (y : Int) = l.getD y ByteArray.empty by simp [rdOf]] at hcell
            have ht := tot_take l y hlt
            have ht2 := tot_mono l (y + 1)
            have ht3 := HT.out
            have ht4 := HTT.out
            generalize l.getD y ByteArray.empty = s at *
            have hs1 : T.size + s.size ≤ 6000 := by omega
            have HN1 := Aside0.mk (show T.size + s.size ≤ tot (l.take (y + 1)) by omega)
            clear ht ht2 ht3 ht4
            have s1 : (9223372036854775807 < T.size + s.size) = False := eq_false (by omega)
            have s2 : (9223372036854775807 < T.size + 1) = False := eq_false (by omega)
            have z2 := Aside0.mk (show (T ++ s).size ≤ 140737488351232 by rw [ByteArray.size_append]; omega)
            have HC := Aside0.mk hcell
            clear hcell
            go_wp2_with fail
            refine (copy_ht g T _ O3.out.hg).mono ?_
            rintro e w4 ⟨x, rfl, hx, hlx, hB⟩
            have T4 := Aside0.mk (show Two w w4 g x T T from ⟨O3.out.hg.below hB, hx, by have := O3.out.hg.lt; omega, O3.out.lg, Nat.le_trans O3.out.bel.size hlx, O3.out.bel.trans (hB.mono O3.out.bel.size)⟩)
            have hcell := pw_cell_below T4.out.bel HC.out
            clear hx hlx hB O3
            go_wp2_with fail
            refine (add_ht g T s _ T4.out.hg (by omega)).mono ?_
            rintro e w5 ⟨rfl, h1, h2⟩
            have T5 := Aside0.mk (T4.out.addg h1 h2)
            clear h1 h2 T4 hcell
            go_wp2_with fail
            refine (sum_ht x T _ T5.out.hx).mono ?_
            rintro e w6 ⟨rfl, hB⟩
            have T6 := Aside0.mk (T5.out.below hB)
            clear hB T5
            go_wp2_with fail
            refine (Rf5.ref_sum T (by omega) _).mono ?_
            rintro e w7 ⟨rfl, hB⟩
            have T7 := Aside0.mk (T6.out.below hB)
            clear hB T6
            go_wp2_with fail
            refine (add_ht x T _ _ T7.out.hx (by decide)).mono ?_
            rintro e w8 ⟨rfl, h1, h2⟩
            have T8 := Aside0.mk (T7.out.addx h1 h2)
            clear h1 h2 T7
            go_wp2_with fail
            refine (sum_ht x _ _ T8.out.hx).mono ?_
            rintro e w9 ⟨rfl, hB⟩
            have T9 := Aside0.mk (T8.out.below hB)
            clear hB T8
            go_wp2_with fail
            refine Calls.mono (Rf5.ref_sum _ (by rw [ByteArray.size_append]; show T.size + 1 ≤ _; omega) _) ?_
            rintro e w10 ⟨rfl, hB⟩
            have T10 := Aside0.mk (T9.out.below hB)
            have hcell := pw_cell_below T10.out.bel HC.out
            clear hB T9
            go_wp2_with fail
            refine (sum_ht g (T ++ s) _ T10.out.hg).mono ?_
            rintro e w11 ⟨rfl, hB⟩
            have T11 := Aside0.mk (T10.out.below hB)
            clear hB T10 hcell
            go_wp2_with fail
            refine (Rf5.ref_sum (T ++ s) z2.out _).mono ?_
            rintro e w12 ⟨rfl, hB⟩
            have T12 := Aside0.mk (T11.out.below hB)
            clear hB T11
            go_wp2_with fail
            go_roundw
            case rel => exact ⟨y + 1, T ++ s, by omega, by go_num, rfl, by rw [ByteArray.size_append]; exact hs1, Aside0.mk (by rw [ByteArray.size_append]; exact HN1.out), Aside0.mk ⟨T12.out.hg, T12.out.lg, T12.out.bel⟩⟩
            case measure => simp [intOf]; omega
          · go_wp2_with fail
            refine (sum_ht g T _ O3.out.hg).mono ?_
            rintro e w4 ⟨rfl, hB⟩
            have O4 := Aside0.mk (show One w w4 g T from ⟨O3.out.hg.below hB, O3.out.lg, O3.out.bel.trans (hB.mono O3.out.bel.size)⟩)
            clear hB O3
            go_wp2_with fail
            refine (Rf5.ref_sum T (by omega) _).mono ?_
            rintro e w5 ⟨rfl, hB⟩
            have HB5 := Aside0.mk (O4.out.bel.trans (hB.mono O4.out.bel.size))
            clear hB O4
            go_wp2_with fail
            go_ret
            exact ⟨rfl, HB5.out⟩
end Go.Proofs.Ytacjfgdehnenpaa.Bk
