import Derived.Test.YtacjfgdehnenpaaProg
import Derived.Below
import Derived.Deep.Draws
import Derived.Deep.AppendLies
import Derived.Maps.AppendAt
import Derived.OwnWalk
import Derived.Laws.BytesArg
import Derived.Laws.MakeOwn
import Derived.Laws.OwnMore
import Derived.Deep.OwnRows
import Derived.Tactics
import Derived.Lib.ConvBytes
import Derived.Laws.Slices
import Derived.WalkKit
import Derived.KernelRfl
import Derived.RowKit3
import Derived.Deep.LoopGhost
import Derived.Deep.QuietTactic
import Derived.BigQuiet
import Derived.WideLaws
import Derived.Deep.DeepCutAuto
import Derived.Deep.CutBlock
import Derived.Deep.RegionHeld3
import Derived.Laws.Rows
import Derived.Lib.AppendStr
import Derived.ArgAppend
import Derived.Laws.IdiomCopy
import Derived.OrdersHeld
import Derived.Laws.BitsLemmas
import Derived.RowKit
import Derived.Test.YtacjfgdehnenpaaWWords
import Derived.Test.YtacjfgdehnenpaaWLast
import Derived.Test.YtacjfgdehnenpaaWMore
import Derived.Test.YtacjfgdehnenpaaBh
import Derived.Test.YtacjfgdehnenpaaPb
import Derived.LoopTactic
import Derived.Test.YtacjfgdehnenpaaPBlakex22
namespace Go.Proofs.Ytacjfgdehnenpaa.Bk
open Go.RowKit Go.Proofs.YtacjfgdehnenpaaW.PrintWords Go.Proofs.YtacjfgdehnenpaaW.PrintLast Go.Proofs.YtacjfgdehnenpaaW.PrintMore Go.Proofs.Ytacjfgdehnenpaa.PBlake
open Go.Proofs.Ytacjfgdehnenpaa.Pb (nil_app app_nil app_assoc wrap_id)
set_option linter.unusedVariables false
set_option linter.unusedSimpArgs false
theorem works_yes : hamperlaw05_works.f 80 = some true := by decide +kernel
theorem works_calls (w : World) : Calls Try.prog 17 #[] w fun e w' => e = .returned (.bool true) ∧ Below w.heap.size w w' := hamperlaw05_works.calls 80 true w works_yes
/-- Two hashes, and what was added to each. -/
structure Two (w W : World) (g x : Nat) (T U : ByteArray) : Prop where
  hg : Ht W g T
  hx : Ht W x U
  ne : g ≠ x
  lg : w.heap.size ≤ g
  lx : w.heap.size ≤ x
  bel : Below w.heap.size w W
theorem Two.below {w W W1 : World} {g x : Nat} {T U : ByteArray} (h : Two w W g x T U) (hb : Below W.heap.size W W1) : Two w W1 g x T U :=
  ⟨h.hg.below hb, h.hx.below hb, h.ne, h.lg, h.lx, h.bel.trans (hb.mono h.bel.size)⟩
theorem Two.addg {w W W1 : World} {g x : Nat} {T T' U : ByteArray} (h : Two w W g x T U) (h1 : Ht W1 g T') (hk : KeepBut W W1 g none) : Two w W1 g x T' U :=
  ⟨h1, h.hx.beside h.hg hk (Ne.symm h.ne), h.ne, h.lg, h.lx, h.bel.trans (hk.below h.bel.size h.lg)⟩
theorem Two.addx {w W W1 : World} {g x : Nat} {T U U' : ByteArray} (h : Two w W g x T U) (h1 : Ht W1 x U') (hk : KeepBut W W1 x none) : Two w W1 g x T U' :=
  ⟨h.hg.beside h.hx hk h.ne, h1, h.ne, h.lg, h.lx, h.bel.trans (hk.below h.bel.size h.lx)⟩
theorem fifth (p : Int) : ∃ q : Nat, wrap64 ((IntKind.u64.wrap p).tmod 5) = (q : Int) ∧ q < 5 := by
  have h0 : 0 ≤ IntKind.u64.wrap p := by unfold IntKind.wrap; simp [IntKind.signed, IntKind.bits]; omega
  rw [Int.tmod_eq_emod_of_nonneg h0]
  exact ⟨(IntKind.u64.wrap p % 5).toNat, by rw [wrap_id (by omega) (by omega)]; omega, by omega⟩
theorem cat_le {a b : ByteArray} {n : Nat} (h : a.size + b.size ≤ n) : (a ++ b).size ≤ n := by rw [ByteArray.size_append]; exact h
set_option maxHeartbeats 4000000 in
set_option maxRecDepth 100000 in
theorem apart_walk (a b c : ByteArray) (n : Int) (w : World) (ha : a.size ≤ 140737488351232) (hb : b.size ≤ 140737488351232) (hc : c.size ≤ 140737488351232) (hn : (Lit.int .i64 n).wf = true) :
    Calls Try.prog 7 #[.string a, .string b, .string c, .int .i64 n] w fun e w' => e = .returned (.bool true) ∧ Below w.heap.size w w' := by
  obtain ⟨q, hq, hq5⟩ := fifth n
  have HQ5 := Aside0.mk hq5
  clear hq5 hn
  go_enter Try.func7, Try.ntmps7
  go_wp2_with fail
  refine (works_calls _).mono ?_
  rintro e w1 ⟨rfl, hB⟩
  have HB := Aside0.mk hB
  clear hB
  by_cases hbig : (20000 : Int) < (a.size : Int) + (b.size : Int) + (c.size : Int)
  · have d0 : decide ((20000 : Int) < (a.size : Int) + (b.size : Int) + (c.size : Int)) = true := decide_eq_true hbig
    clear hbig
    go_wp2_with fail
    refine (works_calls _).mono ?_
    rintro e w2 ⟨rfl, hB⟩
    have HB2 := Aside0.mk (HB.out.trans (hB.mono HB.out.size))
    clear hB
    go_wp2_with fail
    go_ret
    exact ⟨rfl, HB2.out⟩
  · have d0 : decide ((20000 : Int) < (a.size : Int) + (b.size : Int) + (c.size : Int)) = false := decide_eq_false hbig
    have s1 : (9223372036854775807 < a.size + b.size) = False := eq_false (by omega)
    have s2 : (9223372036854775807 < a.size + c.size) = False := eq_false (by omega)
    have s3 : (9223372036854775807 < (a ++ b).size + c.size) = False := eq_false (by rw [ByteArray.size_append]; omega)
    have s4 : (9223372036854775807 < a.size + b.size + c.size) = False := eq_false (by omega)
    have z1 := Aside0.mk (cat_le (a := a) (b := b) (n := 140737488351232) (by omega))
    have z2 := Aside0.mk (cat_le (a := a) (b := c) (n := 140737488351232) (by omega))
    have z3 := Aside0.mk (cat_le (a := a ++ b) (b := c) (n := 140737488351232) (by rw [ByteArray.size_append]; omega))
    clear hbig
    go_wp2_with fail
    refine (new_ht _).mono ?_
    rintro e w2 ⟨g, rfl, hg, hlg, hB⟩
    have HG := Aside0.mk hg
    have HB2 := Aside0.mk (HB.out.trans (hB.mono HB.out.size))
    have HLG := Aside0.mk (Nat.le_trans HB.out.size hlg)
    clear hg hlg hB HB
    go_wp2_with fail
    refine (add_ht g ⟨#[]⟩ a _ HG.out ha).mono ?_
    rintro e w3 ⟨rfl, h1, h2⟩
    rw [nil_app] at h1
    have HG3 := Aside0.mk h1
    have HB3 := Aside0.mk (HB2.out.trans (h2.below HB2.out.size HLG.out))
    clear h1 h2 HG HB2
    go_wp2_with fail
    refine (copy_ht g a _ HG3.out).mono ?_
    rintro e w4 ⟨x, rfl, hx, hlx, hB⟩
    have T4 := Aside0.mk (show Two w w4 g x a a from ⟨HG3.out.below hB, hx, by have := HG3.out.lt; omega, HLG.out, Nat.le_trans HB3.out.size hlx, HB3.out.trans (hB.mono HB3.out.size)⟩)
    clear hx hlx hB HG3 HB3 HLG
    go_wp2_with fail
    go_loopw [11] (fun i wr => ∃ k : Nat, k ≤ q ∧ i = .int .i64 k ∧ Aside0 (Two w wr g x a a)) (fun i _ => q - (intOf i).toNat)
    case atStart => exact ⟨0, Nat.zero_le _, rfl, T4⟩
    case round =>
      obtain ⟨k, hk, rfl, T5⟩ := hrel
      have q5 := HQ5.out
      by_cases hlt : k < q
      · go_wp2_with fail
        refine (sum_ht g a _ T5.out.hg).mono ?_
        rintro e w5 ⟨rfl, hB⟩
        have T6 := Aside0.mk (T5.out.below hB)
        clear hB T5
        go_wp2_with fail
        refine (blake_sum a ha _).mono ?_
        rintro e w6 ⟨rfl, hB⟩
        have T7 := Aside0.mk (T6.out.below hB)
        clear hB T6
        go_wp2_with fail
        refine (add_ht g a ⟨#[]⟩ _ T7.out.hg (by decide)).mono ?_
        rintro e w7 ⟨rfl, h1, h2⟩
        rw [app_nil] at h1
        have T8 := Aside0.mk (T7.out.addg h1 h2)
        clear h1 h2 T7
        go_wp2_with fail
        refine (copy_ht x a _ T8.out.hx).mono ?_
        rintro e w8 ⟨y, rfl, hy, hly, hB⟩
        have T9 := Aside0.mk (show Two w w8 g y a a from ⟨T8.out.hg.below hB, hy, by have := T8.out.hg.lt; omega, T8.out.lg, Nat.le_trans T8.out.bel.size hly, T8.out.bel.trans (hB.mono T8.out.bel.size)⟩)
        have T10 := Aside0.mk (show Two w w8 x y a a from ⟨T8.out.hx.below hB, hy, by have := T8.out.hx.lt; omega, T8.out.lx, Nat.le_trans T8.out.bel.size hly, T8.out.bel.trans (hB.mono T8.out.bel.size)⟩)
        have NE := Aside0.mk T8.out.ne
        clear hy hly hB T8
        go_wp2_with fail
        refine (add_ht y a c _ T9.out.hx hc).mono ?_
        rintro e w9 ⟨rfl, h1, h2⟩
        have T11 := Aside0.mk (show Two w w9 g x a a from ⟨(T9.out.addx h1 h2).hg, (T10.out.addx h1 h2).hg, NE.out, T9.out.lg, T10.out.lg, (T9.out.addx h1 h2).bel⟩)
        clear h1 h2 T9 T10 NE
        go_wp2_with fail
        go_roundw
        case rel => exact ⟨k + 1, by omega, by go_num, T11⟩
        case measure => simp [intOf]; omega
      · go_wp2_with fail
        refine (add_ht g a b _ T5.out.hg hb).mono ?_
        rintro e w5 ⟨rfl, h1, h2⟩
        have T6 := Aside0.mk (T5.out.addg h1 h2)
        clear h1 h2 T5
        go_wp2_with fail
        refine (add_ht x a c _ T6.out.hx hc).mono ?_
        rintro e w6 ⟨rfl, h1, h2⟩
        have T7 := Aside0.mk (T6.out.addx h1 h2)
        clear h1 h2 T6
        go_wp2_with fail
        refine (sum_ht g (a ++ b) _ T7.out.hg).mono ?_
        rintro e w7 ⟨rfl, hB⟩
        have T8 := Aside0.mk (T7.out.below hB)
        clear hB T7
        go_wp2_with fail
        refine (blake_sum (a ++ b) z1.out _).mono ?_
        rintro e w8 ⟨rfl, hB⟩
        have T9 := Aside0.mk (T8.out.below hB)
        clear hB T8
        go_wp2_with fail
        refine (sum_ht x (a ++ c) _ T9.out.hx).mono ?_
        rintro e w9 ⟨rfl, hB⟩
        have T10 := Aside0.mk (T9.out.below hB)
        clear hB T9
        go_wp2_with fail
        refine (blake_sum (a ++ c) z2.out _).mono ?_
        rintro e w10 ⟨rfl, hB⟩
        have T11 := Aside0.mk (T10.out.below hB)
        clear hB T10
        go_wp2_with fail
        refine (add_ht g (a ++ b) c _ T11.out.hg hc).mono ?_
        rintro e w11 ⟨rfl, h1, h2⟩
        have T12 := Aside0.mk (T11.out.addg h1 h2)
        clear h1 h2 T11
        go_wp2_with fail
        refine (sum_ht g (a ++ b ++ c) _ T12.out.hg).mono ?_
        rintro e w12 ⟨rfl, hB⟩
        have T13 := Aside0.mk (T12.out.below hB)
        clear hB T12
        go_wp2_with fail
        refine (blake_sum (a ++ b ++ c) z3.out _).mono ?_
        rintro e w13 ⟨rfl, hB⟩
        have T14 := Aside0.mk (T13.out.below hB)
        clear hB T13
        go_wp2_with fail
        refine (sum_ht x (a ++ c) _ T14.out.hx).mono ?_
        rintro e w14 ⟨rfl, hB⟩
        have T15 := Aside0.mk (T14.out.below hB)
        clear hB T14
        go_wp2_with fail
        refine (blake_sum (a ++ c) z2.out _).mono ?_
        rintro e w15 ⟨rfl, hB⟩
        have T16 := Aside0.mk (T15.out.below hB)
        clear hB T15
        go_wp2_with fail
        go_ret
        exact ⟨rfl, T16.out.bel⟩
end Go.Proofs.Ytacjfgdehnenpaa.Bk
