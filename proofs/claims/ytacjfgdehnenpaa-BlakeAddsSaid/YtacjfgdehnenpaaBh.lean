import Derived.Test.YtacjfgdehnenpaaProg
import Derived.Below
import Derived.Deep.Draws
import Derived.Deep.AppendLies
import Derived.Maps.AppendAt
import Derived.OwnWalk
import Derived.Laws.BytesArg
import Derived.Laws.MakeOwn
import Derived.Laws.OwnMore
import Derived.Deep.OwnRows
import Derived.Tactics
import Derived.Lib.ConvBytes
import Derived.Laws.Slices
import Derived.WalkKit
import Derived.KernelRfl
import Derived.RowKit3
import Derived.Deep.LoopGhost
import Derived.Deep.QuietTactic
import Derived.BigQuiet
import Derived.WideLaws
import Derived.Deep.DeepCutAuto
import Derived.Deep.CutBlock
import Derived.Deep.RegionHeld3
import Derived.Laws.Rows
import Derived.Lib.AppendStr
import Derived.ArgAppend
import Derived.Laws.IdiomCopy
import Derived.OrdersHeld
import Derived.Laws.BitsLemmas
import Derived.RowKit
import Derived.Test.YtacjfgdehnenpaaWWords
import Derived.Test.YtacjfgdehnenpaaWLast
import Derived.Test.YtacjfgdehnenpaaWMore
import Derived.Test.YtacjfgdehnenpaaBk12
namespace Go.Proofs.Ytacjfgdehnenpaa.Bk
open Go.RowKit Go.Proofs.YtacjfgdehnenpaaW.PrintWords Go.Proofs.YtacjfgdehnenpaaW.PrintLast Go.Proofs.YtacjfgdehnenpaaW.PrintMore
set_option linter.unusedVariables false
set_option linter.unusedSimpArgs false
/-! A hash and the text that was added to it. -/
theorem runF_append (k : Nat) : ∀ (hs x y : List Int) (n : Int), x.length ≤ k → runF hs (x ++ y) n = runF (runF hs x n).1 ((runF hs x n).2.1 ++ y) (runF hs x n).2.2 := by
  induction k with
  | zero =>
    intro hs x y n hk
    have e : x = [] := List.length_eq_zero_iff.mp (by omega)
    subst e
    rw [runF_done hs [] n (by simp)]
  | succ k ih =>
    intro hs x y n hk
    by_cases h : 64 < x.length
    · rw [← runF_more hs x n h, ← runF_more hs (x ++ y) n (by rw [List.length_append]; omega), List.take_append_of_le_length (by omega), List.drop_append_of_le_length (by omega)]
      exact ih _ _ _ _ (by rw [List.length_drop]; omega)
    · rw [runF_done hs x n h]
theorem strL_append (a b : ByteArray) : strL (a ++ b) = strL a ++ strL b := by
  rw [strL, strL, strL, ByteArray.data_append, Array.toList_append, List.map_append]
theorem strL_none : strL ⟨#[]⟩ = [] := rfl
/-- To the hash at g this text was added, and no more. -/
def Ht (w : World) (g : Nat) (T : ByteArray) : Prop := HS w g (runF (initL 0) (strL T) 0).1 (runF (initL 0) (strL T) 0).2.1 (runF (initL 0) (strL T) 0).2.2
theorem Ht.lt {w : World} {g : Nat} {T : ByteArray} (h : Ht w g T) : g < w.heap.size := HS.lt h
theorem not_u8 {hs : List Int} {A : Option Addr} {l c : Nat} {n x : Int} : Value.int .u8 x ∉ (nums .u32 hs ++ [Value.slice A l c, .int .u64 n]) := by
  intro h
  rcases List.mem_append.mp h with h | h
  · obtain ⟨y, _, hy⟩ := List.mem_map.mp h
    cases hy
  · simp at h
theorem Holds.apart {w : World} {A : Option Addr} {x : Int} {b : List Int} {bb off g : Nat} {hs : List Int} {A' : Option Addr} {l c : Nat} {n : Int} (h : Holds w A (x :: b)) (e : A = some ⟨bb, off, none⟩) (hI : IsHash w g hs (.slice A' l c) n) : bb ≠ g := by
  subst e
  intro e
  rcases h with ⟨h, _⟩ | ⟨bb', off', he, hlt, hc⟩
  · cases h
  · injection he with he
    injection he with h1 h2
    subst h1 h2 e
    have h0 := hc 0 (.int .u8 x) rfl
    rw [Nat.add_zero, blk_cell hI.blk, List.getElem?_toArray] at h0
    exact not_u8 (List.mem_of_getElem? h0)
theorem HS.beside {w w1 : World} {g g' : Nat} {hs b : List Int} {n : Int} {hs' b' : List Int} {n' : Int} (h : HS w g hs b n) (h' : HS w g' hs' b' n') (hk : KeepBut w w1 g' none) (hg : g ≠ g') : HS w1 g hs b n := by
  obtain ⟨A, c, h1, h2, h3, h4⟩ := h.ex
  obtain ⟨A', c', k1, _, _, _⟩ := h'.ex
  refine ⟨⟨A, c, h1.kept (hk.block g h1.lt hg (by simp)), h2, ?_, h4⟩, h.by_⟩
  cases b with
  | nil =>
    rcases h3 with h3 | ⟨bb, off, e, hlt, _⟩
    · exact .inl h3
    · exact .inr ⟨bb, off, e, Nat.lt_of_lt_of_le hlt hk.size, fun j u hj => by simp [nums] at hj⟩
  | cons x b => exact h3.kept hk (fun bb off e => h3.apart e k1)
theorem Ht.beside {w w1 : World} {g g' : Nat} {T T' : ByteArray} (h : Ht w g T) (h' : Ht w g' T') (hk : KeepBut w w1 g' none) (hg : g ≠ g') : Ht w1 g T := HS.beside h h' hk hg
theorem Ht.below {w w1 : World} {g : Nat} {T : ByteArray} (h : Ht w g T) (hb : Below w.heap.size w w1) : Ht w1 g T := HS.below h hb
theorem new_ht (w : World) : Calls Try.prog 9 #[] w fun e w' => ∃ g, e = .returned (.pointer (some ⟨g, 0, none⟩)) ∧ Ht w' g ⟨#[]⟩ ∧ w.heap.size ≤ g ∧ Below w.heap.size w w' :=
  (new_calls w).mono fun e w' ⟨g, he, hH, hg, hB⟩ => ⟨g, he, by unfold Ht; rw [strL_none, runF_done (initL 0) [] 0 (by simp)]; exact hH, hg, hB⟩
theorem sum_ht (g : Nat) (T : ByteArray) (w : World) (h : Ht w g T) : Calls Try.prog 12 #[.pointer (some ⟨g, 0, none⟩)] w fun e w' => e = .returned (.string (blakeSum T)) ∧ Below w.heap.size w w' :=
  sum_calls g _ _ _ w h (runF_len _ _ _)
theorem copy_ht (g : Nat) (T : ByteArray) (w : World) (h : Ht w g T) : Calls Try.prog 10 #[.pointer (some ⟨g, 0, none⟩)] w fun e w' => ∃ g', e = .returned (.pointer (some ⟨g', 0, none⟩)) ∧ Ht w' g' T ∧ w.heap.size ≤ g' ∧ Below w.heap.size w w' :=
  (copy_calls g _ _ _ w h (runF_len _ _ _)).mono fun e w' ⟨g', Z, he, hI, hHo, hZ, hby, hge, hB⟩ =>
    ⟨g', he, ⟨⟨_, _, hI, Nat.le_refl _, hHo, fun bb off e => by injection e with e; injection e with e1 _; rw [← e1]; exact hZ⟩, hby⟩, hge, hB⟩
set_option maxHeartbeats 1000000 in
theorem add_ht (g : Nat) (T s : ByteArray) (w : World) (h : Ht w g T) (hs : s.size ≤ 140737488351232) : Calls Try.prog 11 #[.pointer (some ⟨g, 0, none⟩), .string s] w fun e w' => e = .returned (.int .i64 0) ∧ Ht w' g (T ++ s) ∧ KeepBut w w' g none := by
  have H := Aside0.mk h
  have HS0 := Aside0.mk hs
  clear h hs
  go_enter Try.func11, Try.ntmps11
  go_wp2_with fail
  refine (add_calls g _ _ _ s _ H.out (runF_len _ _ _) HS0.out).mono ?_
  rintro e w1 ⟨rfl, h1, h2⟩
  have H1 := Aside0.mk h1
  have H2 := Aside0.mk h2
  clear h1 h2
  go_wp2_with fail
  go_ret
  refine ⟨rfl, ?_, H2.out⟩
  have h3 := H1.out
  rw [← runF_append _ _ _ _ _ (Nat.le_refl _), ← strL_append] at h3
  exact h3
end Go.Proofs.Ytacjfgdehnenpaa.Bk
