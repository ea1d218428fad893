-- Made by a program of this session (wip/tools/pp.py) out of the seat's translation; contracts of some functions are typed by hand.
import Derived.Test.YteplphpbpaojjaaDoorPMax0
import Derived.Test.YteplphpbpaojjaaDoorMetaRead
namespace Go.Proofs.YteplphpbpaojjaaDoor.PMa
open Go.RowKit Go.Proofs.YteplphpbpaojjaaDoorW.PrintWords Go.Proofs.YteplphpbpaojjaaDoorW.PrintLast Go.Proofs.YteplphpbpaojjaaDoorW.PrintMore
attribute [local go_sem] max2_int min2_int max_two min_two max_three min_three max_four min_four   -- for this text's walks alone
set_option linter.unusedVariables false
set_option linter.unusedSimpArgs false

/-! ### meta_Read: function 17 -/
def meta_Read.f (a0 : ByteArray) : Option (ByteArray × Int × Int × Int × ByteArray × Int × Int) := if a0.size ≤ 1000000000000000 then some ((Me.readA a0).nm, (Me.readA a0).mo, (Me.readA a0).ti, (Me.readA a0).sz, (Me.readA a0).su, ((Me.readA a0).used : Int), (Me.readA a0).e) else none
theorem meta_Read.calls (a0 : ByteArray) (r1 : ByteArray) (r2 : Int) (r3 : Int) (r4 : Int) (r5 : ByteArray) (r6 : Int) (r7 : Int) (w : World) (hTabs : Me.Tabs w) (h : meta_Read.f a0 = some (r1, r2, r3, r4, r5, r6, r7)) :
    Calls Tryd.prog 17 #[.string a0] w fun e w' => e = .returned (.tuple #[.agg #[.string r1, .int .i64 r2, .int .i64 r3, .int .i64 r4, .string r5], .int .i64 r6, .int .i64 r7]) ∧ Below w.heap.size w w' := by
  unfold meta_Read.f at h
  by_cases hs : a0.size ≤ 1000000000000000
  · rw [if_pos hs] at h
    have e := Option.some.inj h
    simp only [Prod.mk.injEq] at e
    obtain ⟨rfl, rfl, rfl, rfl, rfl, rfl, rfl⟩ := e
    exact Me.read_calls a0 w hTabs hs
  · rw [if_neg hs] at h
    exact absurd h (by simp)

end Go.Proofs.YteplphpbpaojjaaDoor.PMa
