import Derived.Test.YtacjfgdehnenpaaProg
import Derived.Below
import Derived.Deep.Draws
import Derived.Deep.AppendLies
import Derived.Maps.AppendAt
import Derived.OwnWalk
import Derived.Laws.BytesArg
import Derived.Laws.MakeOwn
import Derived.Laws.OwnMore
import Derived.Deep.OwnRows
import Derived.Tactics
import Derived.Lib.ConvBytes
import Derived.Laws.Slices
import Derived.WalkKit
import Derived.KernelRfl
import Derived.RowKit3
import Derived.Deep.LoopGhost
import Derived.Deep.QuietTactic
import Derived.BigQuiet
import Derived.WideLaws
import Derived.Deep.DeepCutAuto
import Derived.Deep.CutBlock
import Derived.Deep.RegionHeld3
import Derived.Laws.Rows
import Derived.Lib.AppendStr
import Derived.ArgAppend
import Derived.Laws.IdiomCopy
import Derived.OrdersHeld
import Derived.Laws.BitsLemmas
import Derived.RowKit
import Derived.Test.YtacjfgdehnenpaaWWords
import Derived.Test.YtacjfgdehnenpaaWLast
import Derived.Test.YtacjfgdehnenpaaWMore
import Derived.Test.YtacjfgdehnenpaaBk12
namespace Go.Proofs.Ytacjfgdehnenpaa.Bk
open Go.RowKit Go.Proofs.YtacjfgdehnenpaaW.PrintWords Go.Proofs.YtacjfgdehnenpaaW.PrintLast Go.Proofs.YtacjfgdehnenpaaW.PrintMore
set_option linter.unusedVariables false
set_option linter.unusedSimpArgs false

set_option maxHeartbeats 1000000 in
theorem made_any (key : ByteArray) (h1 : key.size ≤ 32) (w : World) : Calls Try.prog 19 #[.string key] w (Made w key.size (keyL key)) := by
  by_cases h0 : key.size = 0
  · have e : key = ⟨#[]⟩ := by
      rcases key with ⟨⟨l⟩⟩
      cases l with
      | nil => rfl
      | cons a l => exact absurd h0 (by simp [ByteArray.size])
    subst e
    exact made_none w
  · have e : keyL key = strL key ++ List.replicate (64 - key.size) 0 := by unfold keyL; rw [if_neg h0]
    rw [e]
    exact made_key key w (by omega) h1
theorem keyL_len (key : ByteArray) (h : key.size ≤ 32) : (keyL key).length ≤ 64 := by
  unfold keyL
  split
  · decide
  · rw [List.length_append, List.length_replicate, strL_len]
    omega
set_option maxHeartbeats 1000000 in
theorem blake_keyed (key s : ByteArray) (hk : key.size ≤ 32) (hs : s.size ≤ 140737488351232) (w : World) : Calls Try.prog 14 #[.string key, .string s] w fun e w' => e = .returned (.tuple #[.string (blakeKeyed key s), .int .i64 0]) ∧ Below w.heap.size w w' := by
  have HS0 := Aside0.mk hs
  have HK0 := Aside0.mk hk
  have d0 : decide ((32 : Int) < key.size) = false := decide_eq_false (by omega)
  have d1 : key.size ≤ 9223372036854775807 := by omega
  clear hs hk
  go_enter Try.func14, Try.ntmps14
  go_wp2_with fail
  refine (made_any key HK0.out _).mono ?_
  rintro e w1 ⟨g, rfl, hH, hge, hB⟩
  have HH := Aside0.mk hH
  have HB := Aside0.mk hB
  have HGE := Aside0.mk hge
  clear hH hB hge
  go_wp2_with fail
  refine (add_calls g (initL key.size) (keyL key) 0 s _ HH.out (keyL_len key HK0.out) HS0.out).mono ?_
  rintro e w2 ⟨rfl, hH2, hK2⟩
  have HH2 := Aside0.mk hH2
  have HB2 := Aside0.mk (HB.out.trans (hK2.below HB.out.size HGE.out))
  clear hH2 hK2
  go_wp2_with fail
  refine (sum_calls g _ _ _ _ HH2.out (runF_len _ _ _)).mono ?_
  rintro e w3 ⟨rfl, hB3⟩
  have HB3 := Aside0.mk (HB2.out.trans (hB3.mono HB2.out.size))
  clear hB3
  go_wp2_with fail
  go_ret2
  exact ⟨rfl, HB3.out⟩
set_option maxHeartbeats 1000000 in
theorem blake_keyed_long (key s : ByteArray) (hk : ¬ key.size ≤ 32) (hl : key.size ≤ 9223372036854775807) (w : World) : Calls Try.prog 14 #[.string key, .string s] w fun e w' => e = .returned (.tuple #[.string ⟨#[]⟩, .int .i64 1]) ∧ w' = w := by
  have d0 : decide ((32 : Int) < key.size) = true := decide_eq_true (by omega)
  clear hk
  go_enter Try.func14, Try.ntmps14
  go_wp2_with fail
  go_ret2
  exact ⟨rfl, rfl⟩
end Go.Proofs.Ytacjfgdehnenpaa.Bk
