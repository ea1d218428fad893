-- Made by a program of this session (wip/tools/pp.py) out of the seat's translation; contracts of some functions are typed by hand.
import Derived.Test.YtaooiffnpnmdeaaPMtx0
import Derived.Test.YtaooiffnpnmdeaaMtI
namespace Go.Proofs.Ytaooiffnpnmdeaa.PMt
open Go.RowKit Go.Proofs.YtaooiffnpnmdeaaW.PrintWords Go.Proofs.YtaooiffnpnmdeaaW.PrintLast Go.Proofs.YtaooiffnpnmdeaaW.PrintMore
attribute [local go_sem] max2_int min2_int max_two min_two max_three min_three max_four min_four   -- for this text's walks alone
set_option linter.unusedVariables false
set_option linter.unusedSimpArgs false

/-! ### match_Find: function 11 -/
def tokR (t : Mt.Tok) : S27 := ⟨t.kind, t.byte, t.len, t.dist, t.slot⟩
def match_Find.f (a0 : ByteArray) : Option (List S27) := if a0.size ≤ 80000 then some ((Mt.findS a0).map tokR) else none
theorem tok_reps (W : World) (base : Nat) (ok : Nat → Prop) : ∀ (ys acc : List Mt.Tok), Reps (k27.M W base ok) 5 (acc.map tokR) (Mt.toks5 acc) → Reps (k27.M W base ok) 5 ((acc ++ ys).map tokR) (Mt.toks5 (acc ++ ys))
  | [], acc, h => by rw [List.append_nil]; exact h
  | y :: ys, acc, h => by
    have h2 := tok_reps W base ok ys (acc ++ [y]) (by rw [Mt.toks5_snoc, List.map_append]; exact h.snoc (k27_mkM W base ok (tokR y)) rfl)
    rwa [List.append_assoc, List.singleton_append] at h2
theorem match_Find.calls (a0 : ByteArray) (r : List (S27)) (w : World) (h : match_Find.f a0 = some r) :
    Calls Try.prog 11 #[.string a0] w fun e w' => ∃ v0_ : Value, e = .returned (v0_) ∧ Kd.R k27 27 w' w.heap.size (fun _ => True) v0_ r ∧ Below w.heap.size w w' := by
  unfold match_Find.f at h
  by_cases hl : a0.size ≤ 80000
  · rw [if_pos hl] at h
    obtain rfl := Option.some.inj h
    refine (Mt.Find_walk a0 w hl).mono ?_
    rintro e w' ⟨v, rfl, hown, hb⟩
    refine ⟨v, rfl, ⟨fun _ _ => trivial, Mt.toks5 (Mt.findS a0), ?_, tok_reps _ _ _ (Mt.findS a0) [] (Reps.none _ _)⟩, hb⟩
    rw [List.length_map]
    exact hown
  · rw [if_neg hl] at h
    exact absurd h (by simp)

end Go.Proofs.Ytaooiffnpnmdeaa.PMt
