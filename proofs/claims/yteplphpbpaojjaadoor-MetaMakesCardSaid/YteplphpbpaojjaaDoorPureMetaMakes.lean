/- Which names, and what else is said, may be, and its bytes, or how it is refused, is the document's: for all that the statement takes in. -/
import Derived.Test.YteplphpbpaojjaaDoorMetaPure
import Derived.Test.YteplphpbpaojjaaDoorPMax35
namespace Go.Proofs.YteplphpbpaojjaaDoor.Me
open Go.RowKit Go.Lib Go.Proofs.YteplphpbpaojjaaDoorW.PrintWords Go.Proofs.YteplphpbpaojjaaDoorW.PrintLast Go.Proofs.YteplphpbpaojjaaDoorW.PrintMore Go.Proofs.YteplphpbpaojjaaDoor.PMa Go.Proofs.YteplphpbpaojjaaDoor.Pb
set_option linter.unusedVariables false
set_option linter.unusedSimpArgs false
theorem makes_j0 (nm : ByteArray) (mo ti sz : Int) (su name : ByteArray) (b : Bool) (h1 : name.size ≤ 140737488355328) (h2' : b = false → nm.size ≤ 5000) : hamperlaw19_MetaMakes.j0 601 name b nm mo ti sz su = some true := by
  rw [hamperlaw19_MetaMakes.j0]
  by_cases hb : b = true
  · rw [if_pos hb]
  · rw [if_neg hb]
    have h2 : nm.size ≤ 140737488355328 := Nat.le_trans (h2' (Bool.eq_false_iff.2 hb)) (by decide)
    refine bind_eq (make_f nm mo ti sz su h2) (bind_eq (refmake_f nm mo ti sz su h2 600 (by decide)) ?_)
    rw [if_pos rfl, if_pos rfl]
    refine bind_eq (may_f nm mo ti sz su h2) (bind_eq (refmay_f nm mo ti sz su h2 600 (by decide)) ?_)
    rw [beq_self_eq_true, if_pos rfl]
    refine bind_eq (name_f name h1) (bind_eq (refname_f name h1 600 (by decide)) ?_)
    rw [beq_self_eq_true]
theorem MetaMakes (nm : ByteArray) (mo ti sz : Int) (su name : ByteArray) (h1 : name.size ≤ 140737488355328) : hamperlaw19_MetaMakes.f 601 nm mo ti sz su name = some true := by
  unfold hamperlaw19_MetaMakes.f
  by_cases h : (name.size : Int) > 5000
  · rw [if_pos h]; exact makes_j0 nm mo ti sz su name _ h1 (fun e => by cases e)
  · rw [if_neg h]; exact makes_j0 nm mo ti sz su name _ h1 (fun e => by have := of_decide_eq_false e; omega)
theorem MetaMakes_walk (nm : ByteArray) (mo ti sz : Int) (su name : ByteArray) (w : World) (_ : nm.size ≤ maxLen) (_ : (Lit.int .i64 mo).wf = true) (_ : (Lit.int .i64 ti).wf = true) (_ : (Lit.int .i64 sz).wf = true) (_ : su.size ≤ maxLen) (h3 : name.size ≤ 140737488351232) (hT : Tabs w) :
    Calls Tryd.prog 4 #[.agg #[.string nm, .int .i64 mo, .int .i64 ti, .int .i64 sz, .string su], .string name] w fun e w' => e = .returned (.bool true) ∧ Below w.heap.size w w' :=
  hamperlaw19_MetaMakes.calls 601 nm mo ti sz su name true w hT (MetaMakes nm mo ti sz su name (by omega))
end Go.Proofs.YteplphpbpaojjaaDoor.Me
