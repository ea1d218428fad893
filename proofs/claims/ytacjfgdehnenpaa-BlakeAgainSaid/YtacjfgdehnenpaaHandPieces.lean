import Derived.Test.YtacjfgdehnenpaaProg
import Derived.Below
import Derived.Deep.Draws
import Derived.Deep.AppendLies
import Derived.Maps.AppendAt
import Derived.OwnWalk
import Derived.Laws.BytesArg
import Derived.Laws.MakeOwn
import Derived.Laws.OwnMore
import Derived.Deep.OwnRows
import Derived.Tactics
import Derived.Lib.ConvBytes
import Derived.Laws.Slices
import Derived.WalkKit
import Derived.KernelRfl
import Derived.RowKit3
import Derived.Deep.LoopGhost
import Derived.Deep.QuietTactic
import Derived.BigQuiet
import Derived.WideLaws
import Derived.Deep.DeepCutAuto
import Derived.Deep.CutBlock
import Derived.Deep.RegionHeld3
import Derived.Laws.Rows
import Derived.Lib.AppendStr
import Derived.ArgAppend
import Derived.Laws.IdiomCopy
import Derived.OrdersHeld
import Derived.Laws.BitsLemmas
import Derived.RowKit
import Derived.Test.YtacjfgdehnenpaaWWords
import Derived.Test.YtacjfgdehnenpaaWLast
import Derived.Test.YtacjfgdehnenpaaWMore
import Derived.Test.YtacjfgdehnenpaaHandApart
import Derived.Test.YtacjfgdehnenpaaBk13
namespace Go.Proofs.Ytacjfgdehnenpaa.Bk
open Go.RowKit Go.Proofs.YtacjfgdehnenpaaW.PrintWords Go.Proofs.YtacjfgdehnenpaaW.PrintLast Go.Proofs.YtacjfgdehnenpaaW.PrintMore Go.Proofs.Ytacjfgdehnenpaa.PBlake
open Go.Proofs.Ytacjfgdehnenpaa.Pb (nil_app app_nil app_assoc wrap_id ext_app_left ext_app_right ext_all size_ext tl_nil)
set_option linter.unusedVariables false
set_option linter.unusedSimpArgs false
theorem cut_at (x : Int) (n : Nat) (hb : n ≤ 1000000) : IntKind.u64.wrap ((n : Int) + 1) = (n : Int) + 1 ∧ ∃ q : Nat, q ≤ n ∧ wrap64 (Int.tmod (IntKind.u64.wrap x) ((n : Int) + 1)) = (q : Int) := by
  have h1 : IntKind.u64.wrap ((n : Int) + 1) = (n : Int) + 1 := by
    show ((n : Int) + 1) % 18446744073709551616 = _
    omega
  refine ⟨h1, ?_⟩
  have h2 : IntKind.u64.wrap x = x % 18446744073709551616 := rfl
  rw [h2]
  have h3 : (0 : Int) ≤ x % 18446744073709551616 := Int.emod_nonneg _ (by decide)
  generalize x % 18446744073709551616 = y at h3
  rw [Int.tmod_eq_emod_of_nonneg h3]
  have h4 := Int.emod_nonneg y (show (n : Int) + 1 ≠ 0 by omega)
  have h5 := Int.emod_lt_of_pos y (show (0 : Int) < (n : Int) + 1 by omega)
  exact ⟨(y % ((n : Int) + 1)).toNat, by omega, by rw [wrap_id (by omega) (by omega)]; omega⟩
theorem ext_two (R : ByteArray) (q : Nat) (h : q ≤ R.size) : R.extract 0 q ++ R.extract q R.size = R := by
  rw [ByteArray.extract_append_extract, Nat.min_eq_left (Nat.zero_le _), Nat.max_eq_right h]
  exact ext_all _
theorem keyed_none (s : ByteArray) : blakeKeyed ⟨#[]⟩ s = blakeSum s := rfl
/-- One hash. -/
structure One (w W : World) (g : Nat) (T : ByteArray) : Prop where
  hg : Ht W g T
  lg : w.heap.size ≤ g
  bel : Below w.heap.size w W
theorem One.below {w W W1 : World} {g : Nat} {T : ByteArray} (h : One w W g T) (hb : Below W.heap.size W W1) : One w W1 g T :=
  ⟨h.hg.below hb, h.lg, h.bel.trans (hb.mono h.bel.size)⟩
theorem One.add {w W W1 : World} {g : Nat} {T T' : ByteArray} (h : One w W g T) (h1 : Ht W1 g T') (hk : KeepBut W W1 g none) : One w W1 g T' :=
  ⟨h1, h.lg, h.bel.trans (hk.below h.bel.size h.lg)⟩
set_option maxHeartbeats 4000000 in
set_option maxRecDepth 100000 in
theorem pieces_walk (s : ByteArray) (A : Option Addr) (c : Nat) (l : List Int) (key : ByteArray) (w : World) (hs : s.size ≤ 140737488351232) (hr : Kd.C (Kd.int .i64) w A l.length l) (hc : l.length ≤ c) (hw : ∀ x ∈ l, (Lit.int .i64 x).wf = true) (hy : l.length * 8 ≤ 140737488351232) (hk : key.size ≤ 140737488351232) :
    Calls Try.prog 6 #[.string s, .slice A l.length c, .string key] w fun e w' => e = .returned (.bool true) ∧ Below w.heap.size w w' := by
  have HR := Aside0.mk hr
  clear hr hw hc
  by_cases hbig : s.size ≤ 20000 ∧ l.length ≤ 200 ∧ key.size ≤ 20000
  · obtain ⟨b1, b2, b3⟩ := hbig
    have d1 : decide ((20000 : Int) < (s.size : Int)) = false := decide_eq_false (by omega)
    have d2 : decide ((200 : Int) < (l.length : Int)) = false := decide_eq_false (by omega)
    have d3 : decide ((20000 : Int) < (key.size : Int)) = false := decide_eq_false (by omega)
    go_enter Try.func6, Try.ntmps6
    go_wp2_with fail
    refine (works_calls _).mono ?_
    rintro e w1 ⟨rfl, hB⟩
    have HB := Aside0.mk hB
    clear hB
    go_wp2_with fail
    refine (new_ht _).mono ?_
    rintro e w2 ⟨g, rfl, hg, hlg, hB⟩
    have O2 := Aside0.mk (show One w w2 g ⟨#[]⟩ from ⟨hg, Nat.le_trans HB.out.size hlg, HB.out.trans (hB.mono HB.out.size)⟩)
    clear hg hlg hB HB
    go_wp2_with fail
    go_loopw [8, 9] (fun v i wr => ∃ (x : Int) (T R : ByteArray), 0 ≤ x ∧ x ≤ l.length ∧ i = .int .i64 x ∧ v = .string R ∧ R.size ≤ 20000 ∧ Aside0 (T ++ R = s) ∧ Aside0 (One w wr g T)) (fun _ i _ => l.length - (intOf i).toNat)
    case atStart => exact ⟨0, ⟨#[]⟩, s, Int.le_refl _, by omega, rfl, rfl, b1, Aside0.mk (nil_app s), O2⟩
    case round =>
      obtain ⟨x, T, R, hx0, hxl, rfl, rfl, hR, HT, O3⟩ := hrel
      by_cases hlt : x < l.length
      · obtain ⟨ad, eA, hcell⟩ := Kd.at_int HR.out x hx0 hlt
        cases eA
        replace hcell := (O3.out.bel.cell (World.block_lt_of_cell? w _ hcell)).trans hcell
        obtain ⟨e1, q, hqR, hq⟩ := cut_at (rd l x) R.size (by omega)
        go_wp2_with fail
        refine (add_ht g T (R.extract 0 q) _ O3.out.hg (by rw [size_ext _ _ _ hqR]; omega)).mono ?_
        rintro e w3 ⟨rfl, h1, h2⟩
        have O4 := Aside0.mk (O3.out.add h1 h2)
        have HT2 := Aside0.mk (show T ++ R.extract 0 q ++ R.extract q R.size = s by rw [app_assoc, ext_two R q hqR]; exact HT.out)
        have HZ := Aside0.mk (show (R.extract q R.size).size ≤ 20000 by rw [size_ext _ _ _ (Nat.le_refl _)]; omega)
        clear h1 h2 O3 hcell HT
        go_wp2_with fail
        go_roundw
        case rel => exact ⟨x + 1, T ++ R.extract 0 q, R.extract q R.size, by omega, by omega, rfl, rfl, HZ.out, HT2, O4⟩
        case measure => simp [intOf]; omega
      · go_wp2_with fail
        refine (add_ht g T R _ O3.out.hg (by omega)).mono ?_
        rintro e w3 ⟨rfl, h1, h2⟩
        rw [HT.out] at h1
        have O4 := Aside0.mk (O3.out.add h1 h2)
        clear h1 h2 O3 HT hlt hxl hx0
        go_wp2_with fail
        refine (sum_ht g s _ O4.out.hg).mono ?_
        rintro e w4 ⟨rfl, hB⟩
        have O5 := Aside0.mk (O4.out.below hB)
        clear hB O4
        go_wp2_with fail
        refine (blake_sum s hs _).mono ?_
        rintro e w5 ⟨rfl, hB⟩
        have O6 := Aside0.mk (O5.out.below hB)
        clear hB O5
        go_wp2_with fail
        refine (sum_ht g s _ O6.out.hg).mono ?_
        rintro e w6 ⟨rfl, hB⟩
        have O7 := Aside0.mk (O6.out.below hB)
        clear hB O6
        go_wp2_with fail
        refine (blake_sum s hs _).mono ?_
        rintro e w7 ⟨rfl, hB⟩
        have O8 := Aside0.mk (O7.out.below hB)
        clear hB O7
        go_wp2_with fail
        refine (sum_ht g s _ O8.out.hg).mono ?_
        rintro e w8 ⟨rfl, hB⟩
        have O9 := Aside0.mk (O8.out.below hB)
        clear hB O8
        have hz := blakeSum_size s
        go_wp2_with fail
        clear hz
        by_cases hkey : key.size ≤ 32
        · have hk2 := Aside0.mk hkey
          have d4 : decide ((key.size : Int) ≤ 32) = true := decide_eq_true (by omega)
          refine (blake_keyed key s hk2.out hs _).mono ?_
          rintro e w9 ⟨rfl, hB⟩
          have O10 := Aside0.mk (O9.out.below hB)
          clear hB O9
          go_wp2_with fail
          refine (blake_keyed key s hk2.out hs _).mono ?_
          rintro e w10 ⟨rfl, hB⟩
          have O11 := Aside0.mk (O10.out.below hB)
          clear hB O10
          have hz := blakeKeyed_size key s
          by_cases h0 : key = ⟨#[]⟩
          · subst h0
            go_wp2_with fail
            refine (blake_sum s hs _).mono ?_
            rintro e w11 ⟨rfl, hB⟩
            have O12 := Aside0.mk (O11.out.below hB)
            have kn := keyed_none s
            clear hB O11
            go_wp2_with fail
            go_ret
            exact ⟨rfl, O12.out.bel⟩
          · have t1 : (key.toList = ([] : List UInt8)) = False := eq_false (fun e => h0 ((tl_nil key).mp e))
            have t2 : (key.toList == ([] : List UInt8)) = false := by
              rw [beq_eq_false_iff_ne]
              exact fun e => h0 ((tl_nil key).mp e)
            go_wp2_with fail
            go_ret
            exact ⟨rfl, O11.out.bel⟩
        · have d4 : decide ((key.size : Int) ≤ 32) = false := decide_eq_false (by omega)
          refine (blake_keyed_long key s hkey (by omega) _).mono ?_
          rintro e w9 ⟨rfl, rfl⟩
          go_wp2_with fail
          refine (blake_keyed_long key s hkey (by omega) _).mono ?_
          rintro e w10 ⟨rfl, rfl⟩
          have h0 : ¬ key = ⟨#[]⟩ := by
            rintro rfl
            exact hkey (by decide)
          have t1 : (key.toList = ([] : List UInt8)) = False := eq_false (fun e => h0 ((tl_nil key).mp e))
          go_wp2_with fail
          go_ret
          exact ⟨rfl, O9.out.bel⟩
  · go_enter Try.func6, Try.ntmps6
    go_wp2_with fail
    refine (works_calls _).mono ?_
    rintro e w1 ⟨rfl, hB⟩
    have HB := Aside0.mk hB
    clear hB
    have dec : (decide ((20000 : Int) < (s.size : Int)) = true) ∨ (decide ((20000 : Int) < (s.size : Int)) = false ∧ decide ((200 : Int) < (l.length : Int)) = true) ∨ (decide ((20000 : Int) < (s.size : Int)) = false ∧ decide ((200 : Int) < (l.length : Int)) = false ∧ decide ((20000 : Int) < (key.size : Int)) = true) := by
      simp only [decide_eq_true_eq, decide_eq_false_iff_not]
      omega
    clear hbig
    rcases dec with d1 | ⟨d1, d2⟩ | ⟨d1, d2, d3⟩ <;>
    · go_wp2_with fail
      refine (works_calls _).mono ?_
      rintro e w2 ⟨rfl, hB⟩
      have HB2 := Aside0.mk (HB.out.trans (hB.mono HB.out.size))
      clear hB
      go_wp2_with fail
      go_ret
      exact ⟨rfl, HB2.out⟩
end Go.Proofs.Ytacjfgdehnenpaa.Bk
