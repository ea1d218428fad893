/- meta.number: its contract. -/
import Derived.Test.YteplphpbpaojjaaDoorMetaRead
import Derived.Test.YteplphpbpaojjaaDoorBk7
namespace Go.Proofs.YteplphpbpaojjaaDoor.Me
open Go.RowKit Go.Lib Go.Proofs.YteplphpbpaojjaaDoorW.PrintWords Go.Proofs.YteplphpbpaojjaaDoorW.PrintLast Go.Proofs.YteplphpbpaojjaaDoorW.PrintMore
set_option linter.unusedVariables false
set_option linter.unusedSimpArgs false
/-- The bytes of a number, the highest first: the first k of them. -/
def topN (n : Int) (many : Nat) : Nat → List UInt8
  | 0 => []
  | k + 1 => topN n many k ++ [UInt8.ofNat (n / 2 ^ (8 * (many - (k + 1))) % 256).toNat]
theorem topN_len (n : Int) (many : Nat) : ∀ k, (topN n many k).length = k
  | 0 => rfl
  | k + 1 => by rw [topN, List.length_append, topN_len n many k]; rfl
def numS (n : Int) (many : Nat) : ByteArray := ⟨(topN n many many).toArray⟩
theorem cells_len (l : List UInt8) : (Lib.byteCells l).length = l.length := by simp [Lib.byteCells]
theorem cells_snoc (l : List UInt8) (c : Int) (h0 : 0 ≤ c) (h1 : c < 256) : Lib.byteCells (l ++ [UInt8.ofNat c.toNat]) = Lib.byteCells l ++ [.int .u8 c] := by
  have h : (UInt8.ofNat c.toNat).toNat = c.toNat := by rw [UInt8.toNat_ofNat']; omega
  simp only [Lib.byteCells, List.map_append, List.map_cons, List.map_nil]
  rw [h, Int.toNat_of_nonneg h0]
set_option maxHeartbeats 1000000 in
set_option maxRecDepth 100000 in
theorem number_calls (n : Int) (many : Nat) (w : World) (h0 : 0 < many) (h8 : many ≤ 8) (hn : -9223372036854775808 ≤ n) (hn2 : n ≤ 9223372036854775807) :
    Calls Tryd.prog 30 #[.int .i64 n, .int .i64 (many : Int)] w fun e w' => e = .returned (.string (numS n many)) ∧ Below w.heap.size w w' := by
  go_enter Tryd.func30, Tryd.ntmps30
  go_wp2_with fail
  have hb0 : Lib.IsBuilder 69 5 w.heap.size w.heap.size (Lib.byteCells (topN n many 0)) (w.alloc (.cells #[.pointer none, .slice none 0 0] 69)) := .inl ⟨Nat.le_refl _, _, blk_new w _, World.ownsRow_nil _ _ _ _, by simp [Value.ownBlock]⟩
  have hb1 := below_alloc (Below.refl _ w) (.cells #[.pointer none, .slice none 0 0] 69)
  obtain ⟨B, hB⟩ : ∃ B, B = w.heap.size := ⟨_, rfl⟩
  rw [← hB] at hb0 ⊢
  have HB := Aside0.mk hB
  have H0 := Aside0.mk hb0
  have H1 := Aside0.mk hb1
  clear hB hb0 hb1
  generalize w.alloc (.cells #[.pointer none, .slice none 0 0] 69) = W0 at H0 H1 ⊢
  go_loopw [6] (fun v wr => ∃ k : Nat, k ≤ many ∧ v = .int .i64 ((many : Int) - 1 - (k : Int)) ∧ Aside0 (Lib.IsBuilder 69 5 B B (Lib.byteCells (topN n many k)) wr) ∧ Aside0 (Below w.heap.size w wr)) (fun v _ => (intOf v + 1).toNat)
  case atStart => exact ⟨0, Nat.zero_le _, by go_num, H0, H1⟩
  case round =>
    obtain ⟨k, hk, rfl, H2, H3⟩ := hrel
    clear H0 H1
    by_cases hlt : k < many
    · obtain ⟨i, hi⟩ : ∃ i : Nat, i + 1 + k = many := ⟨many - 1 - k, by omega⟩
      rw [show (many : Int) - 1 - (k : Int) = (i : Int) by omega]
      have hi7 : i ≤ 7 := by omega
      go_wp2_with fail
      have h0c : 0 ≤ n / 2 ^ (8 * i) % 256 := Int.emod_nonneg _ (by decide)
      have h1c : n / 2 ^ (8 * i) % 256 < 256 := Int.emod_lt_of_pos _ (by decide)
      have hstep : topN n many (k + 1) = topN n many k ++ [UInt8.ofNat (n / 2 ^ (8 * i) % 256).toNat] := by rw [topN, show many - (k + 1) = i by omega]
      have hcs := cells_snoc (topN n many k) _ h0c h1c
      rw [← hstep] at hcs
      generalize n / 2 ^ (8 * i) % 256 = c at hcs ⊢
      have HCS := Aside0.mk hcs
      clear hcs hstep h0c h1c
      refine (Bk.writeByte B B (Lib.byteCells (topN n many k)) c _ H2.out (by rw [cells_len, topN_len]; omega) (by rw [HB.out]; exact H3.out.size)).mono ?_
      rintro e w' ⟨rfl, hb, hB⟩
      rw [← HCS.out] at hb
      have H4 := Aside0.mk (show Lib.IsBuilder 69 5 B B (Lib.byteCells (topN n many (k + 1))) w' from .inr hb)
      have H5 := Aside0.mk (H3.out.trans (show Below w.heap.size wr w' by rw [← HB.out]; exact hB))
      clear hb hB H2 H3
      go_wp2_with fail
      go_roundw
      case rel => exact ⟨k + 1, by omega, by go_num, H4, H5⟩
      case measure => (simp [intOf]; try omega)
    · obtain rfl : k = many := by omega
      have hneg : ((k : Int) - 1 - (k : Int)) = -1 := by omega
      rw [hneg]
      go_wp2_with fail
      refine (Bk.builderString B B (topN n k k) _ H2.out (fun e => by have := topN_len n k k; rw [e] at this; simp at this; omega)).mono ?_
      rintro e w' ⟨rfl, hB⟩
      have H5 := Aside0.mk (H3.out.trans (show Below w.heap.size wr w' by rw [← HB.out]; exact hB))
      clear hB
      go_wp2_with fail
      go_ret
      exact ⟨rfl, H5.out⟩
end Go.Proofs.YteplphpbpaojjaaDoor.Me
