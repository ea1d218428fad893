-- A part of what print.sh printed: what this claim does not use is left out by a program of this session (lean_out.py).
-- PRINTED WORDS (module Derived/Print/Sized.lean): go-gate-2's, for the rows of laws over slices: an AI agent of Go's test side, Tue Nov 17 2026; no person has read it. Lean checks it.
import Derived.SizedLaws
import Derived.ChangeSlices
namespace Go.Proofs.YteplphpbpaojjaaDoorW.PrintWords
open Go.ChangeShapes Go.WideShapes
end Go.Proofs.YteplphpbpaojjaaDoorW.PrintWords
