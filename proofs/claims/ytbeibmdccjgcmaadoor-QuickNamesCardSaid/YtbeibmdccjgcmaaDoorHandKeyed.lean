/- The document's BLAKE2s, walked: what its Keyed and its Sum tell. -/
import Derived.Test.YtbeibmdccjgcmaaDoorProg
import Derived.Below
import Derived.Deep.Draws
import Derived.Deep.AppendLies
import Derived.Maps.AppendAt
import Derived.OwnWalk
import Derived.Laws.BytesArg
import Derived.Laws.MakeOwn
import Derived.Laws.OwnMore
import Derived.Deep.OwnRows
import Derived.Tactics
import Derived.Lib.ConvBytes
import Derived.Laws.Slices
import Derived.WalkKit
import Derived.KernelRfl
import Derived.RowKit3
import Derived.Deep.LoopGhost
import Derived.Deep.QuietTactic
import Derived.BigQuiet
import Derived.WideLaws
import Derived.Deep.DeepCutAuto
import Derived.Deep.CutBlock
import Derived.Deep.RegionHeld3
import Derived.Test.YtbeibmdccjgcmaaDoorWInvWords
import Derived.Laws.Rows
import Derived.Lib.AppendStr
import Derived.ArgAppend
import Derived.Laws.IdiomCopy
import Derived.OrdersHeld
import Derived.Laws.BitsLemmas
import Derived.RowKit
import Derived.Test.YtbeibmdccjgcmaaDoorWWords
import Derived.Test.YtbeibmdccjgcmaaDoorWLast
import Derived.Test.YtbeibmdccjgcmaaDoorWMore
import Derived.OpenShut
import Derived.Test.YtbeibmdccjgcmaaDoorBk12
import Derived.Test.YtbeibmdccjgcmaaDoorHandMix
import Derived.Test.YtbeibmdccjgcmaaDoorRefPure
import Derived.Test.YtbeibmdccjgcmaaDoorBytesRow
import Derived.Test.YtbeibmdccjgcmaaDoorWTab
import Derived.Test.YtbeibmdccjgcmaaDoorPRefx7
namespace Go.Proofs.YtbeibmdccjgcmaaDoor.Rf5
open Go.RowKit Go.Proofs.YtbeibmdccjgcmaaDoorW.PrintWords Go.Proofs.YtbeibmdccjgcmaaDoorW.PrintLast Go.Proofs.YtbeibmdccjgcmaaDoorW.PrintMore Go.Proofs.YtbeibmdccjgcmaaDoor.PRef
open Go.Proofs.YtbeibmdccjgcmaaDoor.Bk (firstsL initL keyL strL digest blakeKeyed compress wordsL wordAt veeL outL outB rowsL mixL finL)
set_option linter.unusedVariables false
set_option linter.unusedSimpArgs false
attribute [local go_sem] max2_int min2_int max_two min_two max_three min_three max_four min_four
end Go.Proofs.YtbeibmdccjgcmaaDoor.Rf5
namespace Go.Proofs.YtbeibmdccjgcmaaDoor.Rf5
open Go.RowKit Go.Proofs.YtbeibmdccjgcmaaDoorW.PrintWords Go.Proofs.YtbeibmdccjgcmaaDoorW.PrintLast Go.Proofs.YtbeibmdccjgcmaaDoorW.PrintMore Go.Proofs.YtbeibmdccjgcmaaDoor.PRef
open Go.Proofs.YtbeibmdccjgcmaaDoor.Bk (firstsL initL keyL strL digest blakeKeyed compress wordsL wordAt veeL outL outB rowsL mixL finL)
set_option linter.unusedVariables false
set_option linter.unusedSimpArgs false
attribute [local go_sem] max2_int min2_int max_two min_two max_three min_three max_four min_four
theorem words_len (b : List Int) : (wordsL b).length = 16 := by simp [wordsL]
end Go.Proofs.YtbeibmdccjgcmaaDoor.Rf5
namespace Go.Proofs.YtbeibmdccjgcmaaDoor.Rf5
open Go.RowKit Go.Proofs.YtbeibmdccjgcmaaDoorW.PrintWords Go.Proofs.YtbeibmdccjgcmaaDoorW.PrintLast Go.Proofs.YtbeibmdccjgcmaaDoorW.PrintMore Go.Proofs.YtbeibmdccjgcmaaDoor.PRef
open Go.Proofs.YtbeibmdccjgcmaaDoor.Bk (firstsL initL keyL strL digest blakeKeyed compress wordsL wordAt veeL outL outB rowsL mixL finL)
set_option linter.unusedVariables false
set_option linter.unusedSimpArgs false
attribute [local go_sem] max2_int min2_int max_two min_two max_three min_three max_four min_four
open Go.Proofs.YtbeibmdccjgcmaaDoor.Bk (finL_len fin_at)
end Go.Proofs.YtbeibmdccjgcmaaDoor.Rf5
namespace Go.Proofs.YtbeibmdccjgcmaaDoor.Rf5
open Go.RowKit Go.Proofs.YtbeibmdccjgcmaaDoorW.PrintWords Go.Proofs.YtbeibmdccjgcmaaDoorW.PrintLast Go.Proofs.YtbeibmdccjgcmaaDoorW.PrintMore Go.Proofs.YtbeibmdccjgcmaaDoor.PRef
open Go.Proofs.YtbeibmdccjgcmaaDoor.Bk (firstsL initL keyL strL digest blakeKeyed compress wordsL wordAt veeL outL outB rowsL mixL finL)
set_option linter.unusedVariables false
set_option linter.unusedSimpArgs false
attribute [local go_sem] max2_int min2_int max_two min_two max_three min_three max_four min_four
open Go.Proofs.YtbeibmdccjgcmaaDoor.Bk (outL_take outL_len outL)
end Go.Proofs.YtbeibmdccjgcmaaDoor.Rf5
namespace Go.Proofs.YtbeibmdccjgcmaaDoor.Rf5
open Go.RowKit Go.Proofs.YtbeibmdccjgcmaaDoorW.PrintWords Go.Proofs.YtbeibmdccjgcmaaDoorW.PrintLast Go.Proofs.YtbeibmdccjgcmaaDoorW.PrintMore Go.Proofs.YtbeibmdccjgcmaaDoor.PRef
open Go.Proofs.YtbeibmdccjgcmaaDoor.Bk (firstsL initL keyL strL digest blakeKeyed compress wordsL wordAt veeL outL outB rowsL mixL finL)
set_option linter.unusedVariables false
set_option linter.unusedSimpArgs false
attribute [local go_sem] max2_int min2_int max_two min_two max_three min_three max_four min_four
theorem VAt.drewN {W : World} {g : Nat} {L : List Int} (h : VAt W g L) (n : Nat) : VAt (W.drewN n) g L := ⟨h.cell, h.free⟩
end Go.Proofs.YtbeibmdccjgcmaaDoor.Rf5
namespace Go.Proofs.YtbeibmdccjgcmaaDoor.Rf5
open Go.RowKit Go.Proofs.YtbeibmdccjgcmaaDoorW.PrintWords Go.Proofs.YtbeibmdccjgcmaaDoorW.PrintLast Go.Proofs.YtbeibmdccjgcmaaDoorW.PrintMore Go.Proofs.YtbeibmdccjgcmaaDoor.PRef
open Go.Proofs.YtbeibmdccjgcmaaDoor.Bk (firstsL initL keyL strL digest blakeKeyed compress wordsL wordAt veeL outL outB rowsL mixL finL)
set_option linter.unusedVariables false
set_option linter.unusedSimpArgs false
attribute [local go_sem] max2_int min2_int max_two min_two max_three min_three max_four min_four
open Go.Proofs.YtbeibmdccjgcmaaDoor.Bk (inner outer)
end Go.Proofs.YtbeibmdccjgcmaaDoor.Rf5
namespace Go.Proofs.YtbeibmdccjgcmaaDoor.Rf5
open Go.RowKit Go.Proofs.YtbeibmdccjgcmaaDoorW.PrintWords Go.Proofs.YtbeibmdccjgcmaaDoorW.PrintLast Go.Proofs.YtbeibmdccjgcmaaDoorW.PrintMore Go.Proofs.YtbeibmdccjgcmaaDoor.PRef
open Go.Proofs.YtbeibmdccjgcmaaDoor.Bk (firstsL initL keyL strL digest blakeKeyed compress wordsL wordAt veeL outL outB rowsL mixL finL)
set_option linter.unusedVariables false
set_option linter.unusedSimpArgs false
attribute [local go_sem] max2_int min2_int max_two min_two max_three min_three max_four min_four
open Go.Proofs.YtbeibmdccjgcmaaDoor.Bk (inner outer)
theorem VAt.below {W W1 : World} {g : Nat} {L : List Int} (h : VAt W g L) (hg : g < W.heap.size) (hb : Below W.heap.size W W1) : VAt W1 g L :=
  ⟨fun i hi => (World.cell?_of_block (a := ⟨g, i, none⟩) (hb.block g hg)).trans (h.cell i hi), fun i hi => (World.frozen?_of_block (a := ⟨g, i, none⟩) (hb.block g hg)).trans (h.free i hi)⟩
theorem VAt.keep {W W1 : World} {g g' : Nat} {L : List Int} (h : VAt W g L) (hg : g < W.heap.size) (hk : Bk.KeepBut W W1 g' none) (hne : g ≠ g') : VAt W1 g L :=
  ⟨fun i hi => (World.cell?_of_block (a := ⟨g, i, none⟩) (hk.block g hg hne (by simp))).trans (h.cell i hi), fun i hi => (World.frozen?_of_block (a := ⟨g, i, none⟩) (hk.block g hg hne (by simp))).trans (h.free i hi)⟩
end Go.Proofs.YtbeibmdccjgcmaaDoor.Rf5
namespace Go.Proofs.YtbeibmdccjgcmaaDoor.Rf5
open Go.RowKit Go.Proofs.YtbeibmdccjgcmaaDoorW.PrintWords Go.Proofs.YtbeibmdccjgcmaaDoorW.PrintLast Go.Proofs.YtbeibmdccjgcmaaDoorW.PrintMore Go.Proofs.YtbeibmdccjgcmaaDoor.PRef
open Go.Proofs.YtbeibmdccjgcmaaDoor.Bk (firstsL initL keyL strL digest blakeKeyed compress wordsL veeL outer inner outL outB)
set_option linter.unusedVariables false
set_option linter.unusedSimpArgs false
attribute [local go_sem] max2_int min2_int max_two min_two max_three min_three max_four min_four
/-- What the walk bears: h's numbers, the first numbers, all else. -/
structure K0 (w W : World) (gh : Nat) (hs : List Int) (gf : Nat) : Prop where
  v : VAt W gh hs
  f : ∀ j, j < 8 → W.cell? ⟨gf, j, none⟩ = some (.int .u32 (firstsL.getD j 0))
  fb : gf < gh
  gw : w.heap.size ≤ gh
  gl : gh < W.heap.size
  below : Below w.heap.size w W
/-- What the walk bears when the text is padded. -/
structure K1 (w W : World) (gh : Nat) (hs : List Int) (gf ga : Nat) (all : List Int) : Prop where
  v : VAt W gh hs
  f : ∀ j, j < 8 → W.cell? ⟨gf, j, none⟩ = some (.int .u32 (firstsL.getD j 0))
  a : ∀ j, j < all.length → W.cell? ⟨ga, j, none⟩ = some (.int .u8 (all.getD j 0))
  fh : gf ≠ gh
  ah : ga ≠ gh
  gw : w.heap.size ≤ gh
  gl : gh < W.heap.size
  below : Below w.heap.size w W
end Go.Proofs.YtbeibmdccjgcmaaDoor.Rf5
namespace Go.Proofs.YtbeibmdccjgcmaaDoor.Rf5
open Go.RowKit Go.Proofs.YtbeibmdccjgcmaaDoorW.PrintWords Go.Proofs.YtbeibmdccjgcmaaDoorW.PrintLast Go.Proofs.YtbeibmdccjgcmaaDoorW.PrintMore
open Go.Proofs.YtbeibmdccjgcmaaDoor.Bk (blakeKeyed blakeSum)
set_option linter.unusedVariables false
set_option linter.unusedSimpArgs false
end Go.Proofs.YtbeibmdccjgcmaaDoor.Rf5
