/- The closed statement in plain words: the two longest lists by reasoning, the rest by the kernel's own reckoning. -/
import Derived.Test.YtbeibmdccjgcmaaDoorQPure
import Derived.Test.YtbeibmdccjgcmaaDoorQLaws
import Derived.Test.YtbeibmdccjgcmaaDoorQWorks
import Derived.Test.YtbeibmdccjgcmaaDoorQnR0
import Derived.Test.YtbeibmdccjgcmaaDoorQnR1
namespace Go.Proofs.YtbeibmdccjgcmaaDoor.PQu
open Go.RowKit Go.Proofs.YtbeibmdccjgcmaaDoorW.PrintWords Go.Proofs.YtbeibmdccjgcmaaDoorW.PrintLast Go.Proofs.YtbeibmdccjgcmaaDoorW.PrintMore Go.Proofs.YtbeibmdccjgcmaaDoor.Pb
set_option linter.unusedVariables false
set_option linter.unusedSimpArgs false
set_option maxRecDepth 100000
abbrev sd (a : ByteArray) (n : Int) : MS := ⟨a, 0, 0, n, Bk.blakeSum a⟩
theorem said_sd (a : ByteArray) (n : Int) (h : a.size ≤ 140737488351232) : hamperlaw21_said.f a n = some (a, 0, 0, n, Bk.blakeSum a) := by
  unfold hamperlaw21_said.f
  exact bind_eq (if_pos h) rfl
/-- So many files of different names. -/
def nm (n : Int) : List MS := (hamperlaw21_named.f 100 n).getD []
theorem nm_of (n : Int) (h : (hamperlaw21_named.f 100 n).isSome = true) : hamperlaw21_named.f 100 n = some (nm n) := by
  unfold nm
  cases e : hamperlaw21_named.f 100 n with
  | none => rw [e] at h; exact absurd h (by decide)
  | some l => rfl
theorem nm65 : hamperlaw21_named.f 100 65 = some (nm 65) := nm_of 65 (by decide +kernel)
theorem nm64 : hamperlaw21_named.f 100 64 = some (nm 64) := nm_of 64 (by decide +kernel)
theorem nm63 : hamperlaw21_named.f 100 63 = some (nm 63) := nm_of 63 (by decide +kernel)
theorem nm1 : hamperlaw21_named.f 100 1 = some (nm 1) := nm_of 1 (by decide +kernel)
theorem len65 : (nm 65).length = 65 := by decide +kernel
theorem len64 : (nm 64).length = 64 := by decide +kernel
theorem len63 : (nm 63).length = 63 := by decide +kernel
theorem len1 : (nm 1).length = 1 := by decide +kernel
theorem m2 : (makeQ [sd ⟨#[97]⟩ 0, sd ⟨#[97]⟩ 0, sd ⟨#[46, 46]⟩ 0]).2 = 60 := by decide +kernel
theorem m3 : (makeQ [sd ⟨#[97]⟩ 0, sd ⟨#[97]⟩ (-1)]).2 = 4 := by decide +kernel
theorem m4 : (makeQ (nm 65 ++ nm 1)).2 = 6 := by decide +kernel
theorem m5 : (makeQ (nm 65)).2 = 40 := by decide +kernel
theorem m8 : (makeQ (nm 64)).2 = 0 := by decide +kernel
theorem m9 : (makeQ [sd ⟨#[97]⟩ 32767, sd ⟨#[98]⟩ 1]).2 = 0 := by decide +kernel
theorem mayBad : mayQ [sd ⟨#[97]⟩ (-1)] = false := by decide +kernel
theorem mayNil : mayQ [] = true := by decide +kernel
theorem wrongs : hamperlaw21_QuickNamesR.j0 100 (makeQ [sd ⟨#[97]⟩ 32767, sd ⟨#[98]⟩ 1]).1 false = some true := by decide +kernel
theorem may65 : mayQ (nm 65) = false := by unfold mayQ; rw [m5]; rfl
theorem read64 : readQ (makeQ (nm 64)).1 = (nm 64, 0) := read_make (Prod.ext rfl m8)
theorem make64_size : (makeQ (nm 64)).1.size ≤ 140737488351232 := by
  obtain ⟨_, _, _, h1, h2⟩ := made_parts (l := nm 64) (s := (makeQ (nm 64)).1) (Prod.ext rfl m8)
  have h3 := catQ_size (nm 64)
  rw [len64] at h3
  omega
theorem read64_f : quick_Read.f 100 (makeQ (nm 64)).1 = some (nm 64, 0) := (if_pos make64_size : quick_Read.f 100 (makeQ (nm 64)).1 = some (readQ (makeQ (nm 64)).1)).trans (by rw [read64])
theorem not63 : sameQ (nm 64) (nm 63) = false := by
  refine Bool.eq_false_iff.2 fun h => ?_
  have e := congrArg List.length ((sameQ_iff _ _).1 h)
  rw [len64, len63] at e
  omega
section
attribute [local irreducible] Bk.blakeSum makeQ readQ mayQ nm hamperlaw21_QuickNamesR.j0 hamperlaw21_named.f
theorem QuickNames : hamperlaw21_QuickNamesR.f 100 = some true := by
  unfold hamperlaw21_QuickNamesR.f
  refine bind_eq (works_f _) ?_
  rw [if_pos rfl]
  refine bind_eq (said_sd _ _ (by decide)) ?_
  refine bind_eq (said_sd _ _ (by decide)) ?_
  refine bind_eq (said_sd _ _ (by decide)) ?_
  refine bind_eq (said_sd _ _ (by decide)) ?_
  dsimp only
  refine bind_eq (qmake_f 100 _ (by decide)) ?_
  refine bind_eq (said_sd _ _ (by decide)) ?_
  dsimp only
  refine bind_eq (qmake_f 100 _ (by decide)) ?_
  refine bind_eq nm65 (bind_eq nm1 ?_)
  rw [if_pos (by rw [len65, len1]; decide)]
  refine bind_eq (qmake_f 100 _ (by rw [List.length_append, len65, len1]; decide)) ?_
  refine bind_eq nm65 (bind_eq (qmake_f 100 _ (by rw [len65]; decide)) ?_)
  refine bind_eq nm64 (bind_eq (qmake_f 100 _ (by rw [len64]; decide)) ?_)
  refine bind_eq read64_f ?_
  refine bind_eq (said_sd _ _ (by decide)) ?_
  refine bind_eq (said_sd _ _ (by decide)) ?_
  dsimp only
  refine bind_eq (qmake_f 100 _ (by decide)) ?_
  rw [if_pos m2, if_pos m3, if_pos m4, if_pos m5, if_pos m8, if_pos rfl]
  refine bind_eq nm64 ?_
  refine bind_eq (same_f (nm 64) (nm 64) (by rw [len64]; decide) 100 (by rw [len64]; decide)).1 ?_
  rw [sameQ_self, if_pos rfl]
  refine bind_eq nm63 ?_
  refine bind_eq (same_f (nm 64) (nm 63) (by rw [len64]; decide) 100 (by rw [len64]; decide)).1 ?_
  rw [not63, if_neg (by decide), if_pos m9]
  refine bind_eq nm65 ?_
  refine bind_eq (qmay_f 100 _ (by rw [len65]; decide)) ?_
  rw [may65, if_neg (by decide)]
  refine bind_eq (qmay_f 100 _ (by decide)) ?_
  rw [mayBad, if_neg (by decide)]
  refine bind_eq (qmay_f 100 _ (by decide)) ?_
  rw [mayNil]
  exact wrongs
end
theorem QuickNames_walk (w : World) (hT : Me.Tabs w) :
    Calls Tryd.prog 6 #[] w fun e w' => e = .returned (.bool true) ∧ Below w.heap.size w w' :=
  hamperlaw21_QuickNamesR.calls 100 true rfl w hT QuickNames
end Go.Proofs.YtbeibmdccjgcmaaDoor.PQu
