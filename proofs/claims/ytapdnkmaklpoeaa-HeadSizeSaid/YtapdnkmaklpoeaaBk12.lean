import Derived.Test.YtapdnkmaklpoeaaProg
import Derived.Below
import Derived.Deep.Draws
import Derived.Deep.AppendLies
import Derived.Maps.AppendAt
import Derived.OwnWalk
import Derived.Laws.BytesArg
import Derived.Laws.MakeOwn
import Derived.Laws.OwnMore
import Derived.Deep.OwnRows
import Derived.Tactics
import Derived.Lib.ConvBytes
import Derived.Laws.Slices
import Derived.WalkKit
import Derived.KernelRfl
import Derived.RowKit3
import Derived.Deep.LoopGhost
import Derived.Deep.QuietTactic
import Derived.BigQuiet
import Derived.WideLaws
import Derived.Deep.DeepCutAuto
import Derived.Deep.CutBlock
import Derived.Deep.RegionHeld3
import Derived.Laws.Rows
import Derived.Lib.AppendStr
import Derived.ArgAppend
import Derived.Laws.IdiomCopy
import Derived.OrdersHeld
import Derived.Laws.BitsLemmas
import Derived.RowKit
import Derived.Test.YtapdnkmaklpoeaaWWords
import Derived.Test.YtapdnkmaklpoeaaWLast
import Derived.Test.YtapdnkmaklpoeaaWMore
import Derived.Test.YtapdnkmaklpoeaaBk11
namespace Go.Proofs.Ytapdnkmaklpoeaa.Bk
open Go.RowKit Go.Proofs.YtapdnkmaklpoeaaW.PrintWords Go.Proofs.YtapdnkmaklpoeaaW.PrintLast Go.Proofs.YtapdnkmaklpoeaaW.PrintMore
set_option linter.unusedVariables false
set_option linter.unusedSimpArgs false

theorem runF_len (hs b : List Int) (n : Int) : (runF hs b n).2.1.length ≤ 64 := by
  induction hb : b.length using Nat.strongRecOn generalizing hs b n with
  | _ k ih =>
    by_cases h : 64 < b.length
    · rw [← runF_more hs b n h]
      exact ih (b.drop 64).length (by rw [List.length_drop]; omega) _ _ _ rfl
    · rw [runF_done hs b n h]
      show b.length ≤ 64
      omega
/-- The bytes ahead of all, by a key. -/
def keyL (key : ByteArray) : List Int := if key.size = 0 then [] else strL key ++ List.replicate (64 - key.size) 0
def digest (hs b : List Int) : ByteArray := finish (runF hs b 0).1 (runF hs b 0).2.1 (runF hs b 0).2.2
def blakeSum (s : ByteArray) : ByteArray := digest (initL 0) (strL s)
def blakeKeyed (key s : ByteArray) : ByteArray := digest (initL key.size) (keyL key ++ strL s)
theorem finish_size (hs b : List Int) (n : Int) : (finish hs b n).size = 32 := by
  have h : (outB (compress hs (b ++ List.replicate (64 - b.length) 0) (IntKind.u64.wrap (n + IntKind.u64.wrap b.length)) true)).length = 32 := by
    rw [outB, List.length_map, outL_len, compress, finL_len]
  rw [finish, Lib.size_eq]
  exact h
theorem blakeSum_size (s : ByteArray) : (blakeSum s).size = 32 := finish_size _ _ _
theorem blakeKeyed_size (key s : ByteArray) : (blakeKeyed key s).size = 32 := finish_size _ _ _
set_option maxHeartbeats 1000000 in
theorem blake_sum (s : ByteArray) (hs : s.size ≤ 140737488351232) (w : World) : Calls Try.prog 18 #[.string s] w fun e w' => e = .returned (.string (blakeSum s)) ∧ Below w.heap.size w w' := by
  have HS0 := Aside0.mk hs
  clear hs
  go_enter Try.func18, Try.ntmps18
  go_wp2_with fail
  refine (new_calls _).mono ?_
  rintro e w1 ⟨g, rfl, hH, hge, hB⟩
  have HH := Aside0.mk hH
  have HB := Aside0.mk hB
  have HGE := Aside0.mk hge
  clear hH hB hge
  go_wp2_with fail
  refine (add_calls g (initL 0) [] 0 s _ HH.out (by decide) HS0.out).mono ?_
  rintro e w2 ⟨rfl, hH2, hK2⟩
  have HH2 := Aside0.mk hH2
  have HB2 := Aside0.mk (HB.out.trans (hK2.below HB.out.size HGE.out))
  clear hH2 hK2
  go_wp2_with fail
  refine (sum_calls g _ _ _ _ HH2.out (runF_len _ _ _)).mono ?_
  rintro e w3 ⟨rfl, hB3⟩
  have HB3 := Aside0.mk (HB2.out.trans (hB3.mono HB2.out.size))
  clear hB3
  go_wp2_with fail
  go_ret
  exact ⟨rfl, HB3.out⟩
end Go.Proofs.Ytapdnkmaklpoeaa.Bk
