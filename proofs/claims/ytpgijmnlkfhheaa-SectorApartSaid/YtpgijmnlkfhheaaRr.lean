/- A region that draws its order, in a round of a range over a function: led back to the plain calculus (wpAny), so that each step of the plain walk serves there too. -/
import Derived.Test.YtpgijmnlkfhheaaProg
import Derived.OrdersIn
import Derived.TacticsIn
import Derived.Test.YtpgijmnlkfhheaaWLast
namespace Go.Proofs.Ytpgijmnlkfhheaa.Rr
open Go.Proofs.YtpgijmnlkfhheaaW.PrintLast
set_option linter.unusedVariables false

def noDefer (ops : Array Oper) : Bool := ops.toList.all fun o => match o.op with | .defer _ => false | _ => true
theorem noDefer_at {ops : Array Oper} (h : noDefer ops = true) {i : Nat} {o : Oper} (ho : ops[i]? = some o) : ∀ c, o.op ≠ .defer c := by
  intro c hc
  have h1 := List.all_eq_true.1 h o (by rw [← Array.getElem?_toList] at ho; exact List.mem_of_getElem? ho)
  rw [hc] at h1
  cases h1
section
variable {l n : Nat} {P : Program} {ops : Array Oper} {Q : Exit → Act → World → Prop} {md : Region.Mode}
/-- What is to hold at an end, and that it is no end of all room. -/
def Stay (Q : Exit → Act → World → Prop) : Exit → Act → World → Prop := fun e a w => e ≠ .outgrown ∧ Q e a w
theorem stay_not : ¬ LetsOut (Stay Q) := fun ⟨_, _, h, _⟩ => h rfl
theorem callsIn_round {f : FuncId} {args : Array Value} {w : World} {R : Ending → World → Prop} (h : Calls P f args w R) : CallsIn (Fence.wide.inRound l) n P f args w R :=
  ⟨trivial, ((callsIn_wide (n := n)).2 h).2⟩
theorem rowsIn_round {row : String} {args : Array Value} {w : World} {R : Value → World → Prop} (h : Rows P row args w R) : RowsIn (Fence.wide.inRound l) n P row args w R :=
  fun c cs _ => let ⟨v, w', r, s⟩ := h c cs; ⟨v, w', r, stepsIn_wide.2 s⟩
theorem wpOpIn_of {i : Nat} {K : Act → World → Prop} {a : Act} {w : World} (hd : noDefer ops = true) (h : wpOp P ops (Stay Q) i K a w) : wpOpIn (Fence.wide.inRound l) n P ops Q i K a w := by
  unfold wpOp at h
  unfold wpOpIn
  cases ho : ops[i]? with
  | none =>
    rw [ho] at h
    exact h
  | some o =>
    simp only [ho] at h ⊢
    by_cases hw : Region.wanted o (yielded ops a.tmps) = true
    · rw [if_pos hw] at h ⊢
      rcases h with h | ⟨_, h⟩
      · unfold Oper.wp at h
        unfold Oper.wpIn
        refine ⟨fun _ _ => trivial, ?_⟩
        rw [show (Fence.wide.inRound l).round = some l from rfl, Oper.semAt_some l _ _ (noDefer_at hd ho)]
        generalize (execOp a.eval o).run P w = r at *
        cases r with
        | ok x w' =>
          cases x <;> simp only [Oper.upon, Oper.uponIn] at h ⊢
          case value => exact h
          case skip => exact h
          case defer => exact h
          case enter f args =>
            refine ⟨fun hh => absurd hh (by simp [Fence.inRound, Fence.wide]), callsIn_round (Calls.mono h fun e w'' he => ?_)⟩
            cases e with
            | returned v => exact he
            | panicked c => exact he.2
            | outgrown => exact absurd he stay_not
          case row row args => exact ⟨fun hh => absurd hh (by simp [Fence.inRound, Fence.wide]), rowsIn_round h⟩
        | halt x w' => cases x <;> simp only [Oper.upon, Oper.uponIn] at h ⊢; exact h.2
      · exact absurd h stay_not
    · rw [if_neg hw] at h ⊢
      exact ⟨fun _ _ => trivial, h⟩
theorem wpAnyIn_of (hd : noDefer ops = true) : ∀ (fuel : Nat) (listed : Array Bool) (a : Act) (w : World), wpAny P md ops (Stay Q) fuel listed a w → wpAnyIn (Fence.wide.inRound l) n P md ops Q fuel listed a w
  | 0, _, _, _, h => ⟨h.1, h.2.2⟩
  | fuel + 1, _, a, w, h => ⟨fun h0 => (h.1 h0).2, fun i hi => wpOpIn_mono (fun a' w' hk => wpAnyIn_of hd fuel _ a' w' hk) (wpOpIn_of hd (h.2 i hi))⟩
/-- The region in a round: all of its orders in the plain calculus. -/
theorem region_in {id : Nat} {a : Act} {w : World} (hm : P.follows .mixedOrders = true) (hd : noDefer ops = true) (h : wpAny P .any ops (Stay Q) ops.size (Array.replicate ops.size false) a w.drew) : (Code.region id ops true).wpIn (Fence.wide.inRound l) n P Q a w :=
  wpIn_region_any hm (wpAnyIn_of hd _ _ _ _ h)
theorem start_in {id N : Nat} {S : World → Prop} {ds : List Nat} {a : Act} {w : World} (L : Array Bool) (hm : P.follows .mixedOrders = true) (hd : noDefer ops = true) (hn : ops.size = N) (hl : Array.replicate N false = L) (hS : S w.drew)
    (h : S w.drew → wpAnyLast P .any ops (Stay Q) S ds N L a w.drew) : (Code.region id ops true).wpIn (Fence.wide.inRound l) n P Q a w := by
  subst hn
  subst hl
  exact region_in hm hd (wpAny_of_last _ _ _ _ (h hS))
end
end Go.Proofs.Ytpgijmnlkfhheaa.Rr
