import Derived.Test.YtacjfgdehnenpaaProg
import Derived.Below
import Derived.Deep.Draws
import Derived.Deep.AppendLies
import Derived.Maps.AppendAt
import Derived.OwnWalk
import Derived.Laws.BytesArg
import Derived.Laws.MakeOwn
import Derived.Laws.OwnMore
import Derived.Deep.OwnRows
import Derived.Tactics
import Derived.Lib.ConvBytes
import Derived.Laws.Slices
import Derived.WalkKit
import Derived.KernelRfl
import Derived.RowKit3
import Derived.Deep.LoopGhost
import Derived.Deep.QuietTactic
import Derived.BigQuiet
import Derived.WideLaws
import Derived.Deep.DeepCutAuto
import Derived.Deep.CutBlock
import Derived.Deep.RegionHeld3
import Derived.Laws.Rows
import Derived.Lib.AppendStr
import Derived.ArgAppend
import Derived.Laws.IdiomCopy
import Derived.OrdersHeld
import Derived.Laws.BitsLemmas
import Derived.RowKit
import Derived.Test.YtacjfgdehnenpaaWWords
import Derived.Test.YtacjfgdehnenpaaWLast
import Derived.Test.YtacjfgdehnenpaaWMore
import Derived.Test.YtacjfgdehnenpaaHandPieces
namespace Go.Proofs.Ytacjfgdehnenpaa.Bk
open Go.RowKit Go.Proofs.YtacjfgdehnenpaaW.PrintWords Go.Proofs.YtacjfgdehnenpaaW.PrintLast Go.Proofs.YtacjfgdehnenpaaW.PrintMore Go.Proofs.Ytacjfgdehnenpaa.PBlake
open Go.Proofs.Ytacjfgdehnenpaa.Pb (nil_app app_nil app_assoc wrap_id size_nums bytesOf_inj bytesOf_str bytesOf_append IsBytes bind_eq ite_yes ite_no)
set_option linter.unusedVariables false
set_option linter.unusedSimpArgs false
/-- One byte, so often. -/
def rep (n : Nat) (c : Int) : ByteArray := strOfNums (List.replicate n c)
theorem rep_size (n : Nat) (c : Int) : (rep n c).size = n := by rw [rep, size_nums, List.length_replicate]
theorem rep_bytes {n : Nat} {c : Int} (h : 0 ≤ c ∧ c ≤ 255) : IsBytes (List.replicate n c) := by
  intro x hx
  rw [(List.mem_replicate.mp hx).2]
  exact h
theorem rep_more (n : Nat) : rep n 113 ++ ⟨#[113]⟩ = rep (n + 1) 113 := by
  apply bytesOf_inj
  rw [bytesOf_append, rep, rep, bytesOf_str (rep_bytes (by decide)), bytesOf_str (rep_bytes (by decide)), List.replicate_succ']
  rfl
theorem many_l0 (n : Nat) (c : Int) (hn : n ≤ 1000000) : ∀ (d i k : Nat) (xs : List Int), i + d = n → xs.length = n → xs.take i = List.replicate i c → d < k → hamperlaw05_many.l0 k (n : Int) c xs (i : Int) = some (rep n c) := by
  intro d
  induction d with
  | zero =>
    intro i k xs hi hl ht hk
    obtain ⟨k, rfl⟩ : ∃ m, k = m + 1 := ⟨k - 1, by omega⟩
    simp only [hamperlaw05_many.l0]
    refine ite_no (by omega) ?_
    rw [List.take_of_length_le (by omega)] at ht
    rw [ht, rep, show i = n by omega]
  | succ d ih =>
    intro i k xs hi hl ht hk
    obtain ⟨k, rfl⟩ : ∃ m, k = m + 1 := ⟨k - 1, by omega⟩
    simp only [hamperlaw05_many.l0]
    refine ite_yes (by omega) (ite_yes (by omega) (ite_yes (by omega) ?_))
    rw [wrap_id (by omega) (by omega), Int.toNat_natCast]
    refine ih (i + 1) k (xs.set i c) (by omega) (by rw [List.length_set]; exact hl) ?_ (by omega)
    rw [List.take_succ_eq_append_getElem (by rw [List.length_set]; omega), List.getElem_set_self, List.take_set_of_le (Nat.le_refl _), ht, List.replicate_succ']
theorem many_f (n : Nat) (c : Int) (hn : n ≤ 1000) : hamperlaw05_many.f 1002 (n : Int) c = some (rep n c) := by
  unfold hamperlaw05_many.f
  refine ite_yes (by omega) (ite_yes (by rw [Int.toNat_natCast]; omega) ?_)
  rw [Int.toNat_natCast]
  exact many_l0 n c (by omega) n 0 1002 _ (by omega) (by rw [List.length_replicate]) rfl (by omega)
theorem many_calls (n : Nat) (c : Int) (hn : n ≤ 1000) (w : World) : Calls Try.prog 18 #[.int .i64 (n : Int), .int .u8 c] w fun e w' => e = .returned (.string (rep n c)) ∧ Below w.heap.size w w' :=
  hamperlaw05_many.calls 1002 (n : Int) c (rep n c) w (many_f n c hn)
theorem add_nil (s : ByteArray) (w : World) : Calls Try.prog 11 #[.pointer none, .string s] w fun e w' => e = .returned (.int .i64 2) ∧ w' = w := by
  go_enter Try.func11, Try.ntmps11
  go_wp2_with fail
  go_ret
  exact ⟨rfl, rfl⟩
theorem copy_nil (w : World) : Calls Try.prog 10 #[.pointer none] w fun e w' => e = .returned (.pointer none) ∧ w' = w := by
  go_enter Try.func10, Try.ntmps10
  go_wp2_with fail
  go_ret
  exact ⟨rfl, rfl⟩
theorem sum_nil (w : World) : Calls Try.prog 12 #[.pointer none] w fun e w' => e = .returned (.string (blakeSum ⟨#[]⟩)) ∧ Below w.heap.size w w' := by
  go_enter Try.func12, Try.ntmps12
  go_wp2_with fail
  refine (blake_sum ⟨#[]⟩ (by decide) _).mono ?_
  rintro e w1 ⟨rfl, hB⟩
  have HB := Aside0.mk hB
  clear hB
  go_wp2_with fail
  go_ret
  exact ⟨rfl, HB.out⟩
theorem bel2 {w w1 w2 : World} (h : Below w.heap.size w w1) (k : Below w1.heap.size w1 w2) : Below w.heap.size w w2 := h.trans (k.mono h.size)
set_option maxHeartbeats 4000000 in
set_option maxRecDepth 100000 in
theorem names_walk (w : World) : Calls Try.prog 5 #[] w fun e w' => e = .returned (.bool true) ∧ Below w.heap.size w w' := by
  have hk32 := Aside0.mk (show (rep 32 107).size ≤ 32 by rw [rep_size]; decide)
  go_enter Try.func5, Try.ntmps5
  go_wp2_with fail
  refine (works_calls _).mono ?_
  rintro e w1 ⟨rfl, hB⟩
  have B1 := Aside0.mk hB
  clear hB
  go_wp2_with fail
  refine (blake_keyed ⟨#[]⟩ ⟨#[97, 98, 99]⟩ (by decide) (by decide) _).mono ?_
  rintro e w2 ⟨rfl, hB⟩
  have B2 := Aside0.mk (bel2 B1.out hB)
  clear hB B1
  rw [keyed_none]
  go_wp2_with fail
  refine (many_calls 32 107 (by decide) _).mono ?_
  rintro e w3 ⟨rfl, hB⟩
  have B3 := Aside0.mk (bel2 B2.out hB)
  clear hB B2
  go_wp2_with fail
  refine (blake_keyed (rep 32 107) ⟨#[97, 98, 99]⟩ hk32.out (by decide) _).mono ?_
  rintro e w4 ⟨rfl, hB⟩
  have B4 := Aside0.mk (bel2 B3.out hB)
  clear hB B3
  go_wp2_with fail
  refine (add_nil ⟨#[97]⟩ _).mono ?_
  rintro e w5 ⟨rfl, rfl⟩
  go_wp2_with fail
  refine (copy_nil _).mono ?_
  rintro e w5 ⟨rfl, rfl⟩
  go_wp2_with fail
  refine (sum_nil _).mono ?_
  rintro e w6 ⟨rfl, hB⟩
  have B6 := Aside0.mk (bel2 B4.out hB)
  clear hB B4
  go_wp2_with fail
  refine (blake_sum ⟨#[]⟩ (by decide) _).mono ?_
  rintro e w7 ⟨rfl, hB⟩
  have B7 := Aside0.mk (bel2 B6.out hB)
  clear hB B6
  go_wp2_with fail
  refine (blake_sum ⟨#[97, 98, 99]⟩ (by decide) _).mono ?_
  rintro e w8 ⟨rfl, hB⟩
  have B8 := Aside0.mk (bel2 B7.out hB)
  clear hB B7
  go_wp2_with fail
  go_loopw [6] (fun i wr => ∃ k : Nat, 60 ≤ k ∧ k ≤ 132 ∧ i = .int .i64 k ∧ Aside0 (Below w.heap.size w wr)) (fun i _ => 132 - (intOf i).toNat)
  case atStart => exact ⟨60, by omega, by omega, rfl, B8⟩
  case round =>
    obtain ⟨k, hk1, hk2, rfl, B9⟩ := hrel
    by_cases hlt : k < 132
    · go_wp2_with fail
      refine (new_ht _).mono ?_
      rintro e w9 ⟨g, rfl, hg, hlg, hB⟩
      have O1 := Aside0.mk (show One w w9 g (rep 0 113) from ⟨hg, Nat.le_trans B9.out.size hlg, bel2 B9.out hB⟩)
      clear hg hlg hB B9
      go_wp2_with fail
      go_loopw [8] (fun i wr => ∃ j : Nat, j ≤ k ∧ i = .int .i64 j ∧ Aside0 (One w wr g (rep j 113))) (fun i _ => k - (intOf i).toNat)
      case atStart => exact ⟨0, by omega, rfl, O1⟩
      case round =>
        obtain ⟨j, hj, rfl, O2⟩ := hrel
        by_cases hjk : j < k
        · go_wp2_with fail
          refine (add_ht g (rep j 113) ⟨#[113]⟩ _ O2.out.hg (by decide)).mono ?_
          rintro e w10 ⟨rfl, h1, h2⟩
          rw [rep_more] at h1
          have O3 := Aside0.mk (O2.out.add h1 h2)
          clear h1 h2 O2
          go_wp2_with fail
          go_roundw
          case rel => exact ⟨j + 1, by omega, by go_num, O3⟩
          case measure => simp [intOf]; omega
        · obtain rfl : j = k := by omega
          have hz := Aside0.mk (show (rep j 113).size ≤ 140737488351232 by rw [rep_size]; omega)
          have hj1 := Aside0.mk (show j ≤ 1000 by omega)
          go_wp2_with fail
          refine (many_calls 32 107 (by decide) _).mono ?_
          rintro e w11 ⟨rfl, hB⟩
          have O3 := Aside0.mk (O2.out.below hB)
          clear hB O2
          go_wp2_with fail
          refine (many_calls j 113 hj1.out _).mono ?_
          rintro e w12 ⟨rfl, hB⟩
          have O4 := Aside0.mk (O3.out.below hB)
          clear hB O3
          go_wp2_with fail
          refine (blake_keyed (rep 32 107) (rep j 113) hk32.out hz.out _).mono ?_
          rintro e w13 ⟨rfl, hB⟩
          have O5 := Aside0.mk (O4.out.below hB)
          clear hB O4
          have kz := blakeKeyed_size (rep 32 107) (rep j 113)
          go_wp2_with fail
          refine (sum_ht g (rep j 113) _ O5.out.hg).mono ?_
          rintro e w14 ⟨rfl, hB⟩
          have O6 := Aside0.mk (O5.out.below hB)
          clear hB O5
          go_wp2_with fail
          refine (many_calls j 113 hj1.out _).mono ?_
          rintro e w15 ⟨rfl, hB⟩
          have O7 := Aside0.mk (O6.out.below hB)
          clear hB O6
          go_wp2_with fail
          refine (blake_sum (rep j 113) hz.out _).mono ?_
          rintro e w16 ⟨rfl, hB⟩
          have O8 := Aside0.mk (O7.out.below hB)
          clear hB O7
          go_wp2_with fail
          refine (sum_ht g (rep j 113) _ O8.out.hg).mono ?_
          rintro e w17 ⟨rfl, hB⟩
          have O9 := Aside0.mk (O8.out.below hB)
          clear hB O8
          go_wp2_with fail
          refine (copy_ht g (rep j 113) _ O9.out.hg).mono ?_
          rintro e w18 ⟨x, rfl, hx, _, hB⟩
          have HX := Aside0.mk hx
          have O10 := Aside0.mk (O9.out.below hB)
          clear hx hB O9
          go_wp2_with fail
          refine (sum_ht x (rep j 113) _ HX.out).mono ?_
          rintro e w19 ⟨rfl, hB⟩
          have O11 := Aside0.mk (O10.out.below hB)
          clear hB O10 HX
          clear kz
          go_wp2_with fail
          go_roundw
          case rel => exact ⟨j + 1, by omega, by omega, by go_num, Aside0.mk O11.out.bel⟩
          case measure => simp [intOf]; omega
    · go_wp2_with fail
      go_ret
      exact ⟨rfl, B9.out⟩
end Go.Proofs.Ytacjfgdehnenpaa.Bk
