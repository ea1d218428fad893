-- Made by a program of this session (wip/tools/pp.py) out of the seat's translation; contracts of some functions are typed by hand.
import Derived.Test.YtaclccafbdcpoaaPVintx0
import Derived.Test.YtaclccafbdcpoaaPVintx3
namespace Go.Proofs.Ytaclccafbdcpoaa.PVint
open Go.RowKit Go.Proofs.YtaclccafbdcpoaaW.PrintWords Go.Proofs.YtaclccafbdcpoaaW.PrintLast Go.Proofs.YtaclccafbdcpoaaW.PrintMore
attribute [local go_sem] max2_int min2_int max_two min_two max_three min_three max_four min_four   -- for this text's walks alone
set_option linter.unusedVariables false
set_option linter.unusedSimpArgs false

/-! ### vint_Reader_Good: function 24 -/
def vint_Reader_Good.f (s0_0 : ByteArray) (s0_1 : Bool) : Option (Bool × ByteArray × Bool) := some (!s0_1, s0_0, s0_1)
set_option maxHeartbeats 8000000 in
set_option maxRecDepth 100000 in
theorem vint_Reader_Good.calls (g : Nat) (s0_0 : ByteArray) (s0_1 : Bool) (r1 : Bool) (r2 : ByteArray) (r3 : Bool) (w0 w : World) (hI : IsS47 w0 w g s0_0 s0_1) (hB : Below w0.heap.size w0 w) (h : vint_Reader_Good.f s0_0 s0_1 = some (r1, r2, r3)) :
    Calls Try.prog 24 #[.pointer (some ⟨g, 0, none⟩)] w fun e w' => e = .returned (.bool r1) ∧ IsS47 w0 w' g r2 r3 ∧ Below w0.heap.size w0 w' ∧ KeepBut w w' g none := by
  simp only [vint_Reader_Good.f, Option.some.injEq, Prod.mk.injEq] at h
  obtain ⟨rfl, rfl, rfl⟩ := h
  have HI := Aside0.mk hI
  have HB := Aside0.mk hB
  obtain ⟨HG, hg⟩ := hI
  have c0 := cellS47_0 HG
  have c1 := cellS47_1 HG
  clear HG hg hB
  go_enter Try.func24, Try.ntmps24
  go_wp2
  go_ret
  exact ⟨rfl, HI.out, HB.out, KeepBut.refl w g none⟩

end Go.Proofs.Ytaclccafbdcpoaa.PVint
