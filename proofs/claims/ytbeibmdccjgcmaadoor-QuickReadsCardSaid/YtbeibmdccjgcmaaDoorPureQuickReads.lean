/- The list of any bytes, also with their sum put behind, or how they are refused, is the document's; what is handed out may be written over: for all bytes that the statement takes in. -/
import Derived.Test.YtbeibmdccjgcmaaDoorQRefRead
import Derived.Test.YtbeibmdccjgcmaaDoorPQux72
namespace Go.Proofs.YtbeibmdccjgcmaaDoor.PQu
open Go.RowKit Go.Lib Go.Proofs.YtbeibmdccjgcmaaDoorW.PrintWords Go.Proofs.YtbeibmdccjgcmaaDoorW.PrintLast Go.Proofs.YtbeibmdccjgcmaaDoorW.PrintMore Go.Proofs.YtbeibmdccjgcmaaDoor.Pb
set_option linter.unusedVariables false
set_option linter.unusedSimpArgs false
theorem reads_l2 (x : ByteArray) (x19 : List ByteArray) (r : Option Bool) (kb : Nat) (x5 : List MS) (x6 x7 x20 x21 : Int) (hr : ∀ k, kb ≤ k → hamperlaw21_QuickReads.l1 k x x5 x6 (wrap64 (x7 + 1)) x19 x20 x21 = r) :
    ∀ (d i k : Nat) (l : List MS), l.length ≤ 1000 → i + d = l.length → kb + d + 1 ≤ k → hamperlaw21_QuickReads.l2 k x x5 x6 x7 l (i : Int) x19 x20 x21 = r
  | 0, i, k, l, hl, hi, hk => by
    obtain ⟨k, rfl⟩ : ∃ q, k = q + 1 := ⟨k - 1, by omega⟩
    rw [hamperlaw21_QuickReads.l2, if_neg (by omega)]
    exact hr k (by omega)
  | d + 1, i, k, l, hl, hi, hk => by
    obtain ⟨k, rfl⟩ : ∃ q, k = q + 1 := ⟨k - 1, by omega⟩
    rw [hamperlaw21_QuickReads.l2, if_pos (by omega), if_pos (by omega), step_w i (by omega)]
    exact reads_l2 x x19 r kb x5 x6 x7 x20 x21 hr d (i + 1) k _ (by rw [List.length_set]; exact hl) (by rw [List.length_set]; omega) (by omega)
theorem read_len (s : ByteArray) : (readQ s).1.length ≤ 255 := by
  rcases readQ_cases s with q | ⟨l, q, hl⟩
  · rw [q]; exact Nat.zero_le _
  · rw [q]
    have := (made_parts hl).2.1
    show l.length ≤ 255
    omega
theorem reads_l1 (x : ByteArray) (hx : x.size ≤ 1000000) (x19 : List ByteArray) (r : Option Bool) (kb : Nat) (x20 x21 : Int) (hr : ∀ k, kb ≤ k → hamperlaw21_QuickReads.l0 k x19 x20 (wrap64 (x21 + 1)) = r) :
    ∀ (d i k : Nat), i + d = 2 → kb + 500000 + 500000 * d ≤ k → hamperlaw21_QuickReads.l1 k x (readQ x).1 (readQ x).2 (i : Int) x19 x20 x21 = r
  | 0, i, k, hi, hk => by
    obtain ⟨k, rfl⟩ : ∃ q, k = q + 1 := ⟨k - 1, by omega⟩
    rw [hamperlaw21_QuickReads.l1, if_neg (by omega)]
    exact hr k (by omega)
  | d + 1, i, k, hi, hk => by
    obtain ⟨k, rfl⟩ : ∃ q, k = q + 2 := ⟨k - 2, by omega⟩
    have hl := read_len x
    rw [hamperlaw21_QuickReads.l1, if_pos (by omega)]
    refine bind_eq (qread_f _ x (by omega)) ?_
    refine bind_eq (same_f _ _ (by omega) (k + 1) (by omega)).2 ?_
    rw [sameQ_self, if_pos rfl, hamperlaw21_QuickReads.j2, bne_self_eq_false, if_neg (by decide)]
    have h := reads_l2 x x19 r (kb + 500000 + 500000 * d) (readQ x).1 (readQ x).2 (i : Int) x20 x21 (fun k2 hk2 => by
      rw [step_w i (by omega)]
      exact reads_l1 x hx x19 r kb x20 x21 hr d (i + 1) k2 (by omega) hk2) (readQ x).1.length 0 k (readQ x).1 (by omega) (by omega) (by omega)
    exact h
theorem fuel_l0 (d k : Nat) (h : 500000 + 2000000 * (d + 1) ≤ k + 1) : 400300 ≤ k ∧ 500000 + 2000000 * d + 500000 + 500000 * 2 ≤ k := by omega
theorem reads_l0 (L : List ByteArray) (hL : ∀ x ∈ L, x.size ≤ 1000000) (hlen : L.length ≤ 1000) : ∀ (d i k : Nat), i + d = L.length → 500000 + 2000000 * d ≤ k → hamperlaw21_QuickReads.l0 k L (L.length : Int) (i : Int) = some true
  | 0, i, k, hi, hk => by
    obtain ⟨k, rfl⟩ : ∃ q, k = q + 1 := ⟨k - 1, by omega⟩
    rw [hamperlaw21_QuickReads.l0, if_neg (by omega)]
  | d + 1, i, k, hi, hk => by
    obtain ⟨k, rfl⟩ : ∃ q, k = q + 1 := ⟨k - 1, by omega⟩
    have hlt : i < L.length := by omega
    obtain ⟨hk1, hk3⟩ := fuel_l0 d k hk
    have hx : (rdOf ByteArray.empty L (i : Int)) ∈ L := by
      unfold rdOf
      rw [Int.toNat_natCast, List.getD_eq_getElem?_getD, List.getElem?_eq_getElem hlt]
      exact List.getElem_mem hlt
    have hsz := hL _ hx
    rw [hamperlaw21_QuickReads.l0, if_pos (by omega), if_pos (by omega), if_pos (by omega)]
    refine bind_eq (refread_q _ hsz k hk1) ?_
    refine reads_l1 _ hsz L (some true) (500000 + 2000000 * d) (L.length : Int) (i : Int) (fun k2 hk2 => ?_) 2 0 k rfl hk3
    rw [step_w i (by omega)]
    exact reads_l0 L hL hlen d (i + 1) k2 (by omega) hk2
theorem QuickReads (s : ByteArray) : hamperlaw21_QuickReads.f 5000000 s = some true := by
  unfold hamperlaw21_QuickReads.f
  by_cases h : (s.size : Int) > 20000
  · rw [if_pos h]
  · rw [if_neg h]
    refine bind_eq (refsum_f s (by omega)) ?_
    rw [if_pos (by rw [Bk.blakeSum_size]; omega)]
    refine bind_eq rfl ?_
    refine reads_l0 [s, s ++ Bk.blakeSum s] (fun x hx => ?_) (by simp) 2 0 5000000 rfl (by omega)
    rcases List.mem_cons.1 hx with rfl | hx
    · omega
    · rw [List.mem_singleton] at hx
      rw [hx, ByteArray.size_append, Bk.blakeSum_size]
      omega
theorem QuickReads_walk (s : ByteArray) (w : World) (hs : s.size ≤ 140737488351232) (hT : Me.Tabs w) :
    Calls Tryd.prog 4 #[.string s] w fun e w' => e = .returned (.bool true) ∧ Below w.heap.size w w' :=
  hamperlaw21_QuickReads.calls 5000000 s true w hT (QuickReads s)
end Go.Proofs.YtbeibmdccjgcmaaDoor.PQu
