import Derived.Test.YtaclccafbdcpoaaProg
import Derived.Below
import Derived.Deep.Draws
import Derived.Deep.AppendLies
import Derived.Maps.AppendAt
import Derived.OwnWalk
import Derived.Laws.BytesArg
import Derived.Laws.MakeOwn
import Derived.Laws.OwnMore
import Derived.Deep.OwnRows
import Derived.Tactics
import Derived.Lib.ConvBytes
import Derived.Laws.Slices
import Derived.WalkKit
import Derived.KernelRfl
import Derived.RowKit3
import Derived.Deep.LoopGhost
import Derived.Deep.QuietTactic
import Derived.BigQuiet
import Derived.WideLaws
import Derived.Deep.DeepCutAuto
import Derived.Deep.CutBlock
import Derived.Deep.RegionHeld3
import Derived.Laws.Rows
import Derived.Lib.AppendStr
import Derived.ArgAppend
import Derived.Laws.IdiomCopy
import Derived.OrdersHeld
import Derived.Laws.BitsLemmas
import Derived.RowKit
import Derived.Test.YtaclccafbdcpoaaWWords
import Derived.Test.YtaclccafbdcpoaaWLast
import Derived.Test.YtaclccafbdcpoaaWMore
import Derived.Test.YtaclccafbdcpoaaVw
import Derived.Test.YtaclccafbdcpoaaPVintx1
import Derived.Test.YtaclccafbdcpoaaPVintx2
namespace Go.Proofs.Ytaclccafbdcpoaa.Vw
open Go.RowKit Go.Proofs.YtaclccafbdcpoaaW.PrintWords Go.Proofs.YtaclccafbdcpoaaW.PrintLast Go.Proofs.YtaclccafbdcpoaaW.PrintMore Go.Proofs.Ytaclccafbdcpoaa.PVint
open Go.Proofs.Ytaclccafbdcpoaa.Vm (enc get_f getR getR_cases put_f putR awake_f)
open Go.Proofs.Ytaclccafbdcpoaa.Pb (bind_eq ite_yes ite_no size_ext tl_nil)
set_option linter.unusedVariables false
set_option linter.unusedSimpArgs false
theorem nGood (w : World) : Calls Try.prog 24 #[.pointer none] w fun e w' => e = .returned (.bool false) ∧ Below w.heap.size w w' := by
  go_enter Try.func24, Try.ntmps24
  go_wp2_with fail
  go_ret
  exact ⟨rfl, Below.refl _ _⟩
theorem nNum (w : World) : Calls Try.prog 16 #[.pointer none] w fun e w' => e = .returned (.int .i64 0) ∧ Below w.heap.size w w' := by
  go_enter Try.func16, Try.ntmps16
  go_wp2
  go_ret
  exact ⟨rfl, Below.refl _ _⟩
theorem nText (n : Int) (w : World) : Calls Try.prog 20 #[.pointer none, .int .i64 n] w fun e w' => e = .returned (.string ⟨#[]⟩) ∧ Below w.heap.size w w' := by
  go_enter Try.func20, Try.ntmps20
  go_wp2
  go_ret
  exact ⟨rfl, below_alloc (Below.refl _ _) _⟩
theorem nLong (w : World) : Calls Try.prog 18 #[.pointer none] w fun e w' => e = .returned (.string ⟨#[]⟩) ∧ Below w.heap.size w w' := by
  go_enter Try.func18, Try.ntmps18
  go_wp2_with fail
  refine (nNum _).mono ?_
  rintro e w1 ⟨rfl, hB⟩
  have B1 := Aside0.mk hB
  clear hB
  go_wp2_with fail
  refine (nText 0 _).mono ?_
  rintro e w2 ⟨rfl, hB⟩
  have B2 := Aside0.mk (B1.out.trans (hB.mono B1.out.size))
  clear hB
  go_wp2_with fail
  go_ret
  exact ⟨rfl, B2.out⟩
theorem nLeft (w : World) : Calls Try.prog 22 #[.pointer none] w fun e w' => e = .returned (.int .i64 0) ∧ Below w.heap.size w w' := by
  go_enter Try.func22, Try.ntmps22
  go_wp2_with fail
  refine (nGood _).mono ?_
  rintro e w1 ⟨rfl, hB⟩
  have B1 := Aside0.mk hB
  clear hB
  go_wp2_with fail
  go_ret
  exact ⟨rfl, B1.out⟩
theorem nDone (w : World) : Calls Try.prog 25 #[.pointer none] w fun e w' => e = .returned (.bool false) ∧ Below w.heap.size w w' := by
  go_enter Try.func25, Try.ntmps25
  go_wp2_with fail
  refine (nGood _).mono ?_
  rintro e w1 ⟨rfl, hB⟩
  have B1 := Aside0.mk hB
  clear hB
  go_wp2_with fail
  go_ret
  exact ⟨rfl, B1.out⟩
theorem bel2 {w w1 w2 : World} (h : Below w.heap.size w w1) (k : Below w1.heap.size w1 w2) : Below w.heap.size w w2 := h.trans (k.mono h.size)
theorem done_empty : doneR ⟨#[]⟩ false = true := by
  show ((⟨#[]⟩ : ByteArray).toList == ([] : List UInt8)) = true
  rw [ByteArray.toList_eq]
  rfl
theorem done_x : doneR ⟨#[120]⟩ false = false := by
  show ((⟨#[120]⟩ : ByteArray).toList == ([] : List UInt8)) = false
  rw [ByteArray.toList_eq]
  rfl
/-- The greatest number's bytes. -/
def great : ByteArray := ⟨#[255, 255, 255, 255, 255, 255, 255, 255, 63]⟩
theorem p1 (w : World) : Calls Try.prog 11 #[.int .i64 (-1)] w fun e w' => e = .returned (.tuple #[.string ⟨#[]⟩, .int .i64 1]) ∧ Below w.heap.size w w' := vint_Put.calls 30 _ _ _ w (by decide +kernel)
theorem p2 (w : World) : Calls Try.prog 11 #[.int .i64 4611686018427387904] w fun e w' => e = .returned (.tuple #[.string ⟨#[]⟩, .int .i64 1]) ∧ Below w.heap.size w w' := vint_Put.calls 30 _ _ _ w (by decide +kernel)
theorem p3 (w : World) : Calls Try.prog 11 #[.int .i64 4611686018427387903] w fun e w' => e = .returned (.tuple #[.string great, .int .i64 0]) ∧ Below w.heap.size w w' := vint_Put.calls 30 _ _ _ w (by decide +kernel)
theorem g1 (w : World) : Calls Try.prog 13 #[.string (great ++ ⟨#[120]⟩)] w fun e w' => e = .returned (.tuple #[.int .i64 4611686018427387903, .int .i64 9, .int .i64 0]) ∧ Below w.heap.size w w' := vint_Get.calls 30 _ _ _ _ w (by decide +kernel)
theorem g2 (w : World) : Calls Try.prog 13 #[.string ⟨#[255, 255, 255, 255, 255, 255, 255, 255, 64]⟩] w fun e w' => e = .returned (.tuple #[.int .i64 0, .int .i64 0, .int .i64 4]) ∧ Below w.heap.size w w' := vint_Get.calls 30 _ _ _ _ w (by decide +kernel)
theorem g3 (w : World) : Calls Try.prog 13 #[.string ⟨#[128, 128, 128, 128, 128, 128, 128, 128, 128, 1]⟩] w fun e w' => e = .returned (.tuple #[.int .i64 0, .int .i64 0, .int .i64 4]) ∧ Below w.heap.size w w' := vint_Get.calls 30 _ _ _ _ w (by decide +kernel)
theorem g4 (w : World) : Calls Try.prog 13 #[.string ⟨#[]⟩] w fun e w' => e = .returned (.tuple #[.int .i64 0, .int .i64 0, .int .i64 4]) ∧ Below w.heap.size w w' := vint_Get.calls 30 _ _ _ _ w (by decide +kernel)
theorem opens (s : ByteArray) (w : World) : Calls Try.prog 15 #[.string s] w fun e w' => ∃ g : Nat, e = .returned (.pointer (some ⟨g, 0, none⟩)) ∧ IsS47 w w' g s false ∧ Below w.heap.size w w' :=
  (vint_Open.calls s s false w w (Below.refl _ _) rfl).mono fun _ _ ⟨g, he, h1, _, h3⟩ => ⟨g, he, h1, h3⟩
theorem good1 (s : ByteArray) (b : Bool) (g : Nat) (w0 w : World) (h : IsS47 w0 w g s b) (hb : Below w0.heap.size w0 w) : Calls Try.prog 24 #[.pointer (some ⟨g, 0, none⟩)] w fun e w' => e = .returned (.bool (!b)) ∧ Below w0.heap.size w0 w' :=
  (vint_Reader_Good.calls g s b _ _ _ w0 w h hb (good_v s b)).mono fun _ _ ⟨he, _, h2, _⟩ => ⟨he, h2⟩
theorem done1 (s : ByteArray) (b : Bool) (g : Nat) (w0 w : World) (h : IsS47 w0 w g s b) (hb : Below w0.heap.size w0 w) : Calls Try.prog 25 #[.pointer (some ⟨g, 0, none⟩)] w fun e w' => e = .returned (.bool (doneR s b)) ∧ Below w0.heap.size w0 w' :=
  (vint_Reader_Done.calls g s b _ _ _ w0 w h hb (done_v s b)).mono fun _ _ ⟨he, _, h2, _⟩ => ⟨he, h2⟩
set_option maxHeartbeats 4000000 in
set_option maxRecDepth 100000 in
theorem vnames_walk (w : World) : Calls Try.prog 7 #[] w fun e w' => e = .returned (.bool true) ∧ Below w.heap.size w w' := by
  have gs : great.size = 9 := rfl
  have B0 := Aside0.mk (Below.refl w.heap.size w)
  go_enter Try.func7, Try.ntmps7
  go_wp2_with fail
  refine (p1 _).mono ?_
  rintro e w1 ⟨rfl, hB⟩
  have B1 := Aside0.mk (bel2 B0.out hB)
  clear hB B0
  go_wp2_with fail
  refine (p2 _).mono ?_
  rintro e w2 ⟨rfl, hB⟩
  have B2 := Aside0.mk (bel2 B1.out hB)
  clear hB B1
  go_wp2_with fail
  refine (p3 _).mono ?_
  rintro e w3 ⟨rfl, hB⟩
  have B3 := Aside0.mk (bel2 B2.out hB)
  clear hB B2
  go_wp2_with fail
  refine (g1 _).mono ?_
  rintro e w4 ⟨rfl, hB⟩
  have B4 := Aside0.mk (bel2 B3.out hB)
  clear hB B3
  go_wp2_with fail
  refine (g2 _).mono ?_
  rintro e w5 ⟨rfl, hB⟩
  have B5 := Aside0.mk (bel2 B4.out hB)
  clear hB B4
  go_wp2_with fail
  refine (g3 _).mono ?_
  rintro e w6 ⟨rfl, hB⟩
  have B6 := Aside0.mk (bel2 B5.out hB)
  clear hB B5
  go_wp2_with fail
  refine (g4 _).mono ?_
  rintro e w7 ⟨rfl, hB⟩
  have B7 := Aside0.mk (bel2 B6.out hB)
  clear hB B6
  go_wp2_with fail
  refine (nNum _).mono ?_
  rintro e w8 ⟨rfl, hB⟩
  have B8 := Aside0.mk (bel2 B7.out hB)
  clear hB B7
  go_wp2_with fail
  refine (nText 0 _).mono ?_
  rintro e w9 ⟨rfl, hB⟩
  have B9 := Aside0.mk (bel2 B8.out hB)
  clear hB B8
  go_wp2_with fail
  refine (nLong _).mono ?_
  rintro e w10 ⟨rfl, hB⟩
  have B10 := Aside0.mk (bel2 B9.out hB)
  clear hB B9
  go_wp2_with fail
  refine (nLeft _).mono ?_
  rintro e w11 ⟨rfl, hB⟩
  have B11 := Aside0.mk (bel2 B10.out hB)
  clear hB B10
  go_wp2_with fail
  refine (nGood _).mono ?_
  rintro e w12 ⟨rfl, hB⟩
  have B12 := Aside0.mk (bel2 B11.out hB)
  clear hB B11
  go_wp2_with fail
  refine (nDone _).mono ?_
  rintro e w13 ⟨rfl, hB⟩
  have B13 := Aside0.mk (bel2 B12.out hB)
  clear hB B12
  go_wp2_with fail
  refine (opens ⟨#[]⟩ _).mono ?_
  rintro e w14 ⟨g14, rfl, hI, hB⟩
  have I14 := Aside0.mk hI
  have C14 := Aside0.mk hB
  clear hI hB
  go_wp2_with fail
  refine (done1 ⟨#[]⟩ false g14 _ _ I14.out C14.out).mono ?_
  rintro e v14 ⟨rfl, hB⟩
  have B14 := Aside0.mk (bel2 B13.out hB)
  clear hB B13
  have dd1 := done_empty
  go_wp2_with fail
  refine (opens ⟨#[120]⟩ _).mono ?_
  rintro e w15 ⟨g15, rfl, hI, hB⟩
  have I15 := Aside0.mk hI
  have C15 := Aside0.mk hB
  clear hI hB
  go_wp2_with fail
  refine (good1 ⟨#[120]⟩ false g15 _ _ I15.out C15.out).mono ?_
  rintro e v15 ⟨rfl, hB⟩
  have B15 := Aside0.mk (bel2 B14.out hB)
  clear hB B14
  go_wp2_with fail
  refine (opens ⟨#[120]⟩ _).mono ?_
  rintro e w16 ⟨g16, rfl, hI, hB⟩
  have I16 := Aside0.mk hI
  have C16 := Aside0.mk hB
  clear hI hB
  go_wp2_with fail
  refine (done1 ⟨#[120]⟩ false g16 _ _ I16.out C16.out).mono ?_
  rintro e v16 ⟨rfl, hB⟩
  have B16 := Aside0.mk (bel2 B15.out hB)
  clear hB B15
  have dd2 := done_x
  go_wp2_with fail
  refine (awake_calls _).mono ?_
  rintro e w17 ⟨rfl, hB⟩
  have B17 := Aside0.mk (bel2 B16.out hB)
  clear hB B16
  go_wp2_with fail
  go_ret
  exact ⟨rfl, B17.out⟩
end Go.Proofs.Ytaclccafbdcpoaa.Vw
