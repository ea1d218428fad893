/- meta.Read's two closures: what is taken, and the numbers. -/
import Derived.Test.YteplphpbpaojjaaDoorMetaName
import Derived.LoopTactic
namespace Go.Proofs.YteplphpbpaojjaaDoor.Me
open Go.RowKit Go.Lib Go.Proofs.YteplphpbpaojjaaDoorW.PrintWords Go.Proofs.YteplphpbpaojjaaDoorW.PrintLast Go.Proofs.YteplphpbpaojjaaDoorW.PrintMore
set_option linter.unusedVariables false
set_option linter.unusedSimpArgs false
/-- What lies in memory while a text is read. -/
structure Rd (w W : World) (B : Nat) (s : ByteArray) (nm : ByteArray) (mo ti sz : Int) (su : ByteArray) (u : Nat) (bd : Bool) : Prop where
  s_ : W.heap[B]? = some (.cells #[.string s] 9 (0, 0))
  m_ : W.heap[B + 1]? = some (.cells #[.string nm, .int .i64 mo, .int .i64 ti, .int .i64 sz, .string su] 25 (0, 0))
  u_ : W.heap[B + 2]? = some (.cells #[.int .i64 (u : Int)] 3 (0, 0))
  b_ : W.heap[B + 3]? = some (.cells #[.bool bd] 4 (0, 0))
  t_ : W.heap[B + 4]? = some (.cells #[.func (.func 32) #[] #[.pointer (some ⟨B, 0, none⟩), .pointer (some ⟨B + 2, 0, none⟩), .pointer (some ⟨B + 3, 0, none⟩)]] 50 (0, 0))
  bel : Below w.heap.size w W
  lo : w.heap.size ≤ B
section
variable {w W W' : World} {B : Nat} {s nm : ByteArray} {mo ti sz : Int} {su : ByteArray} {u : Nat} {bd : Bool}
theorem Rd.below (h : Rd w W B s nm mo ti sz su u bd) (hb : Below W.heap.size W W') : Rd w W' B s nm mo ti sz su u bd :=
  ⟨(hb.block _ (blk_lt h.s_)).trans h.s_, (hb.block _ (blk_lt h.m_)).trans h.m_, (hb.block _ (blk_lt h.u_)).trans h.u_, (hb.block _ (blk_lt h.b_)).trans h.b_, (hb.block _ (blk_lt h.t_)).trans h.t_, h.bel.trans (hb.mono h.bel.size), h.lo⟩
theorem Rd.drew (h : Rd w W B s nm mo ti sz su u bd) : Rd w W.drew B s nm mo ti sz su u bd := h.below (below_drew (Below.refl _ _))
theorem far (W : World) (b k : Nat) (v : Value) (x : Nat) (h : x ≠ b) : (W.setCell ⟨b, k, none⟩ v).heap[x]? = W.heap[x]? := Below.heap_setCell W ⟨b, k, none⟩ v x h
theorem Rd.setU (h : Rd w W B s nm mo ti sz su u bd) (u' : Nat) : Rd w (W.setCell ⟨B + 2, 0, none⟩ (.int .i64 (u' : Int))) B s nm mo ti sz su u' bd :=
  ⟨(far W _ 0 _ _ (by omega)).trans h.s_, (far W _ 0 _ _ (by omega)).trans h.m_, (blk_set h.u_ 0 _).trans rfl, (far W _ 0 _ _ (by omega)).trans h.b_, (far W _ 0 _ _ (by omega)).trans h.t_, below_set h.bel (by have := h.lo; omega), h.lo⟩
theorem Rd.setB (h : Rd w W B s nm mo ti sz su u bd) (b' : Bool) : Rd w (W.setCell ⟨B + 3, 0, none⟩ (.bool b')) B s nm mo ti sz su u b' :=
  ⟨(far W _ 0 _ _ (by omega)).trans h.s_, (far W _ 0 _ _ (by omega)).trans h.m_, (far W _ 0 _ _ (by omega)).trans h.u_, (blk_set h.b_ 0 _).trans rfl, (far W _ 0 _ _ (by omega)).trans h.t_, below_set h.bel (by have := h.lo; omega), h.lo⟩
theorem Rd.set0 (h : Rd w W B s nm mo ti sz su u bd) (v : ByteArray) : Rd w (W.setCell ⟨B + 1, 0, none⟩ (.string v)) B s v mo ti sz su u bd :=
  ⟨(far W _ 0 _ _ (by omega)).trans h.s_, (blk_set h.m_ 0 _).trans rfl, (far W _ 0 _ _ (by omega)).trans h.u_, (far W _ 0 _ _ (by omega)).trans h.b_, (far W _ 0 _ _ (by omega)).trans h.t_, below_set h.bel (by have := h.lo; omega), h.lo⟩
theorem Rd.set1 (h : Rd w W B s nm mo ti sz su u bd) (v : Int) : Rd w (W.setCell ⟨B + 1, 1, none⟩ (.int .i64 v)) B s nm v ti sz su u bd :=
  ⟨(far W _ 1 _ _ (by omega)).trans h.s_, (blk_set h.m_ 1 _).trans rfl, (far W _ 1 _ _ (by omega)).trans h.u_, (far W _ 1 _ _ (by omega)).trans h.b_, (far W _ 1 _ _ (by omega)).trans h.t_, below_set h.bel (by have := h.lo; omega), h.lo⟩
theorem Rd.set2 (h : Rd w W B s nm mo ti sz su u bd) (v : Int) : Rd w (W.setCell ⟨B + 1, 2, none⟩ (.int .i64 v)) B s nm mo v sz su u bd :=
  ⟨(far W _ 2 _ _ (by omega)).trans h.s_, (blk_set h.m_ 2 _).trans rfl, (far W _ 2 _ _ (by omega)).trans h.u_, (far W _ 2 _ _ (by omega)).trans h.b_, (far W _ 2 _ _ (by omega)).trans h.t_, below_set h.bel (by have := h.lo; omega), h.lo⟩
theorem Rd.set3 (h : Rd w W B s nm mo ti sz su u bd) (v : Int) : Rd w (W.setCell ⟨B + 1, 3, none⟩ (.int .i64 v)) B s nm mo ti v su u bd :=
  ⟨(far W _ 3 _ _ (by omega)).trans h.s_, (blk_set h.m_ 3 _).trans rfl, (far W _ 3 _ _ (by omega)).trans h.u_, (far W _ 3 _ _ (by omega)).trans h.b_, (far W _ 3 _ _ (by omega)).trans h.t_, below_set h.bel (by have := h.lo; omega), h.lo⟩
theorem Rd.set4 (h : Rd w W B s nm mo ti sz su u bd) (v : ByteArray) : Rd w (W.setCell ⟨B + 1, 4, none⟩ (.string v)) B s nm mo ti sz v u bd :=
  ⟨(far W _ 4 _ _ (by omega)).trans h.s_, (blk_set h.m_ 4 _).trans rfl, (far W _ 4 _ _ (by omega)).trans h.u_, (far W _ 4 _ _ (by omega)).trans h.b_, (far W _ 4 _ _ (by omega)).trans h.t_, below_set h.bel (by have := h.lo; omega), h.lo⟩
end
/-- What is taken; where it ends; could it not be taken? -/
def takeT (s : ByteArray) (u n : Nat) : ByteArray := if u + n ≤ s.size then s.extract u (u + n) else ⟨#[]⟩
def takeU (s : ByteArray) (u n : Nat) : Nat := if u + n ≤ s.size then u + n else u
def takeB (s : ByteArray) (u n : Nat) : Bool := decide (¬ u + n ≤ s.size)
set_option maxHeartbeats 1000000 in
theorem take_calls {w W : World} {B : Nat} {s nm : ByteArray} {mo ti sz : Int} {su : ByteArray} {u : Nat} {bd : Bool} (h : Rd w W B s nm mo ti sz su u bd) (n : Nat) (hu : u ≤ s.size) (hs : s.size ≤ 1000000000000000) (hn : n ≤ 1000) :
    Calls Tryd.prog 32 #[.int .i64 (n : Int), .pointer (some ⟨B, 0, none⟩), .pointer (some ⟨B + 2, 0, none⟩), .pointer (some ⟨B + 3, 0, none⟩)] W fun e w' => e = .returned (.string (takeT s u n)) ∧ Rd w w' B s nm mo ti sz su (takeU s u n) (bd || takeB s u n) := by
  have c0 := (blk_cell h.s_ 0).trans (rfl : _ = some (Value.string s))
  have c2 := (blk_cell h.u_ 0).trans (rfl : _ = some (Value.int .i64 (u : Int)))
  have c3 := (blk_cell h.b_ 0).trans (rfl : _ = some (Value.bool bd))
  have z2 := blk_frozen h.u_ 0
  have z3 := blk_frozen h.b_ 0
  have H := Aside0.mk h
  by_cases hf : u + n ≤ s.size
  · have hT : takeT s u n = s.extract u (u + n) := if_pos hf
    have hU : takeU s u n = u + n := if_pos hf
    have hB : takeB s u n = false := decide_eq_false (fun k => k hf)
    have HH := Aside0.mk (And.intro hT (And.intro hU hB))
    obtain ⟨v, hv⟩ : ∃ v, v = u + n := ⟨_, rfl⟩
    have hvI : (u : Int) + (n : Int) = (v : Int) := by omega
    have hvs : v ≤ s.size := by omega
    have hsub : (v : Int) - (n : Int) = (u : Int) := by omega
    have d0 : decide ((s.size : Int) - (u : Int) < (n : Int)) = false := decide_eq_false (by omega)
    have h2 := Aside0.mk (h.setU v)
    have huv : u ≤ v := by omega
    clear h hT hU hB hf
    have HVV := Aside0.mk hv
    clear hv
    go_enter Tryd.func32, Tryd.ntmps32
    go_wp2_with fail
    go_ret
    obtain ⟨hT, hU, hB⟩ := HH.out
    rw [hT, hU, hB, Bool.or_false, ← HVV.out]
    exact ⟨rfl, h2.out⟩
  · have hT : takeT s u n = ⟨#[]⟩ := if_neg hf
    have hU : takeU s u n = u := if_neg hf
    have hB : takeB s u n = true := decide_eq_true hf
    have HH := Aside0.mk (And.intro hT (And.intro hU hB))
    have d0 : decide ((s.size : Int) - (u : Int) < (n : Int)) = true := decide_eq_true (by omega)
    have h2 := Aside0.mk (h.setB true)
    clear h hT hU hB hf
    go_enter Tryd.func32, Tryd.ntmps32
    go_wp2_with fail
    go_ret
    obtain ⟨hT, hU, hB⟩ := HH.out
    rw [hT, hU, hB, Bool.or_true]
    exact ⟨rfl, h2.out⟩
/-- A number's bytes, the highest first. -/
def beL : List Int → Int
  | l => l.foldl (fun n c => n * 256 + c) 0
theorem or_byte (Z x : Int) (h0 : 0 ≤ x) (h1 : x ≤ 255) : bits .or .i64 (wrap64 (IntKind.i64.wrap Z * 256)) (wrap64 x) = IntKind.i64.wrap (Z * 256 + x) := by
  show IntKind.i64.wrap ((BitVec.ofInt 64 (wrap64 (IntKind.i64.wrap Z * 256)) ||| BitVec.ofInt 64 (wrap64 x)).toNat : Int) = _
  rw [BitVec.toNat_or, BitVec.toNat_ofInt, BitVec.toNat_ofInt]
  have p64 : (((2 : Nat) ^ 64 : Nat) : Int) = 18446744073709551616 := by decide
  rw [p64]
  obtain ⟨a, ha⟩ : ∃ a : Nat, (a : Int) = Z % 72057594037927936 := ⟨(Z % 72057594037927936).toNat, by omega⟩
  have e1 : (wrap64 (IntKind.i64.wrap Z * 256) % 18446744073709551616).toNat = 2 ^ 8 * a := by
    rw [IntKind.wrap_i64]
    unfold wrap64
    omega
  have e2 : (wrap64 x % 18446744073709551616).toNat = x.toNat := by
    unfold wrap64
    omega
  rw [e1, e2, ← Nat.two_pow_add_eq_or_of_lt (i := 8) (by omega) a, IntKind.wrap_i64, IntKind.wrap_i64]
  omega
theorem be_snoc (l : List Int) (x : Int) : beL (l ++ [x]) = beL l * 256 + x := by simp [beL]
theorem be_take (t : ByteArray) (k : Nat) (h : k < t.size) : beL ((bytesOf t).take (k + 1)) = beL ((bytesOf t).take k) * 256 + (bytesOf t).getD k 0 ∧ 0 ≤ (bytesOf t).getD k 0 ∧ (bytesOf t).getD k 0 ≤ 255 := by
  have hl : k < (bytesOf t).length := by rw [bytesOf_length]; exact h
  rw [List.take_succ_eq_append_getElem hl, be_snoc]
  have e : (bytesOf t).getD k 0 = (bytesOf t)[k] := by simp [List.getD_eq_getElem?_getD, hl]
  rw [e]
  refine ⟨rfl, ?_⟩
  have hm := List.getElem_mem hl
  unfold bytesOf at hm
  obtain ⟨b, _, hb⟩ := List.mem_map.1 hm
  have hlt := b.toNat_lt
  unfold bytesOf
  omega
set_option maxHeartbeats 1000000 in
theorem get_calls {w W : World} {B : Nat} {s nm : ByteArray} {mo ti sz : Int} {su : ByteArray} {u : Nat} {bd : Bool} (h : Rd w W B s nm mo ti sz su u bd) (n : Nat) (hu : u ≤ s.size) (hs : s.size ≤ 1000000000000000) (hn : n ≤ 8) :
    Calls Tryd.prog 33 #[.int .i64 (n : Int), .pointer (some ⟨B + 4, 0, none⟩)] W fun e w' => e = .returned (.int .i64 (IntKind.i64.wrap (beL (bytesOf (takeT s u n))))) ∧ Rd w w' B s nm mo ti sz su (takeU s u n) (bd || takeB s u n) := by
  have c4 := (blk_cell h.t_ 0).trans (rfl : _ = some (Value.func (.func 32) #[] #[.pointer (some ⟨B, 0, none⟩), .pointer (some ⟨B + 2, 0, none⟩), .pointer (some ⟨B + 3, 0, none⟩)]))
  have HT := Aside0.mk (take_calls h n hu hs (by omega))
  have hts : (takeT s u n).size ≤ 8 := by unfold takeT; split; rw [ByteArray.size_extract]; omega; decide
  obtain ⟨t, ht⟩ : ∃ t, takeT s u n = t := ⟨_, rfl⟩
  rw [ht] at HT hts
  rw [ht]
  clear ht h
  have kb := fun W => print_bytes (P := Tryd.prog) 9 51 5 Tryd.underlying9 Tryd.underlying51 Tryd.underlying5 t W
  go_enter Tryd.func33, Tryd.ntmps33
  go_wp2_with fail
  refine HT.out.mono ?_
  rintro e w1 ⟨rfl, h1⟩
  have H1 := Aside0.mk h1
  clear h1 HT c4
  go_wp2_with fail
  have H2 := Aside0.mk (H1.out.below (bytes_below (Below.refl _ w1) (Nat.le_refl _) 5 t))
  have hcell : ∀ j, j < t.size → (Lib.bytesWorld w1 5 t).cell? ⟨w1.heap.size, j, none⟩ = some (.int .u8 ((bytesOf t).getD j 0)) := by
    intro j hj
    rw [Lib.bytesWorld_cell w1 5 t j hj]
    have h' : j < t.data.toList.length := hj
    simp [bytesOf, List.getD_eq_getElem?_getD, List.getElem?_eq_getElem h']
  have HC := Aside0.mk hcell
  clear hcell kb H1
  generalize w1.heap.size = D at HC ⊢
  generalize Lib.bytesWorld w1 5 t = W2 at HC H2 ⊢
  go_loop [4, 12] (fun v i => ∃ k : Nat, k ≤ t.size ∧ i = .int .i64 (k : Int) ∧ v = .int .i64 (IntKind.i64.wrap (beL ((bytesOf t).take k)))) (fun _ i => t.size - (intOf i).toNat)
  case atStart => exact ⟨0, Nat.zero_le _, rfl, rfl⟩
  case round =>
    obtain ⟨k, hk, rfl, rfl⟩ := hrel
    by_cases hlt : k < t.size
    · have hx := HC.out k hlt
      have hbe := Aside0.mk (be_take t k hlt)
      generalize (bytesOf t).getD k 0 = x at hx hbe
      obtain ⟨Zb, hZb⟩ : ∃ Zb, beL ((bytesOf t).take k) = Zb := ⟨_, rfl⟩
      rw [hZb] at hbe ⊢
      obtain ⟨y, hy⟩ : ∃ y, IntKind.i64.wrap Zb = y := ⟨_, rfl⟩
      have HY := Aside0.mk hy
      rw [hy]
      clear hZb hy
      go_wp2_with fail
      refine ⟨⟨k + 1, by omega, by go_num, ?_⟩, by simp [intOf]; omega⟩
      obtain ⟨q1, q2, q3⟩ := hbe.out
      rw [q1, ← or_byte _ _ q2 q3, HY.out]
    · obtain rfl : k = t.size := by omega
      go_wp2_with fail
      go_ret
      rw [List.take_of_length_le (by rw [bytesOf_length]; exact Nat.le_refl _)]
      exact ⟨rfl, H2.out⟩
end Go.Proofs.YteplphpbpaojjaaDoor.Me
