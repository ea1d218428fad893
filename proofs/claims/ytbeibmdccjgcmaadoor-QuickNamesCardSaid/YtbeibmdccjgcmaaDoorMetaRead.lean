/- meta.Read and what it asks: their contracts. -/
import Derived.Test.YtbeibmdccjgcmaaDoorLib
import Derived.Test.YtbeibmdccjgcmaaDoorMetaSplit
import Derived.Test.YtbeibmdccjgcmaaDoorWLast
import Derived.Test.YtbeibmdccjgcmaaDoorWMore
import Derived.Deep.Cut
import Derived.Deep.CutRange
import Derived.Laws.EntriesVeiled
import Derived.LoopTactic
import Derived.Deep.CutBlock
namespace Go.Proofs.YtbeibmdccjgcmaaDoor.Me
open Go.RowKit Go.Lib Go.Proofs.YtbeibmdccjgcmaaDoorW.PrintWords Go.Proofs.YtbeibmdccjgcmaaDoorW.PrintLast Go.Proofs.YtbeibmdccjgcmaaDoorW.PrintMore
set_option linter.unusedVariables false
set_option linter.unusedSimpArgs false
/-- What the library's variables hold. -/
def Tabs (w : World) : Prop := Lib.Utf8Tabs 0 1 w ∧ ∃ m, w.cell? ⟨2, 0, none⟩ = some (.int .i64 m)
theorem Tabs.below {w W : World} (h : Tabs w) (hb : Below w.heap.size w W) : Tabs W := by
  obtain ⟨h1, m, h2⟩ := h
  exact ⟨Utf8Tabs_below h1 hb, m, (hb.cell (World.block_lt_of_cell? w _ h2)).trans h2⟩
def never : List ByteArray := [⟨#[]⟩, ⟨#[46]⟩, ⟨#[46, 46]⟩]
def badS (x : ByteArray) : Bool := Lib.containsS (never.take 3) x
theorem bad_eq (x : ByteArray) : badS x = badL x.data.toList := by
  rw [Bool.eq_iff_iff]
  unfold badS badL
  rw [Lib.containsS_iff]
  have key : ∀ l : List UInt8, x = ⟨l.toArray⟩ ↔ x.data.toList = l := fun l => by
    constructor
    · intro h; rw [h]
    · intro h; apply ByteArray.ext; rw [← h]
  simp only [never, List.take, List.mem_cons, List.not_mem_nil, or_false, Bool.or_eq_true, beq_iff_eq]
  have k1 := key []
  have k2 := key [46]
  have k3 := key [46, 46]
  rw [show ((⟨#[]⟩ : ByteArray)) = ⟨([] : List UInt8).toArray⟩ from rfl, show ((⟨#[46]⟩ : ByteArray)) = ⟨([46] : List UInt8).toArray⟩ from rfl, show ((⟨#[46, 46]⟩ : ByteArray)) = ⟨([46, 46] : List UInt8).toArray⟩ from rfl, k1, k2, k3]
  exact or_assoc.symm
set_option maxHeartbeats 1000000 in
theorem bad_calls (Z : Nat) (w W : World) (h : w.heap[Z]? = some (.cells #[.string ⟨#[]⟩, .string ⟨#[46]⟩, .string ⟨#[46, 46]⟩] 78 (0, 0))) (hb : Below w.heap.size w W) (x : ByteArray) :
    Calls Tryd.prog 54 #[.string x, .pointer (some ⟨Z, 0, none⟩)] W fun e w' => e = .returned (.bool (badS x)) ∧ ∃ q, w' = W.drewN q := by
  have hZ : Z < w.heap.size := blk_lt h
  have hblk : W.heap[Z]? = some (.cells #[.string ⟨#[]⟩, .string ⟨#[46]⟩, .string ⟨#[46, 46]⟩] 78 (0, 0)) := (hb.block Z hZ).trans h
  have hc : ∀ W' : World, W'.heap[Z]? = W.heap[Z]? → ∀ j, j < never.length → W'.cell? ⟨Z, 0 + j, none⟩ = some (.string (never.getD j ByteArray.empty)) := by
    intro W' e j hj
    rw [Nat.zero_add, blk_cell (e.trans hblk)]
    match j, hj with
    | 0, _ => rfl
    | 1, _ => rfl
    | 2, _ => rfl
  have HC := Aside0.mk hc
  clear hc hblk h hb
  unfold badS
  obtain ⟨b, hbb⟩ : ∃ b, Lib.containsS (never.take 3) x = b := ⟨_, rfl⟩
  have HBB := Aside0.mk hbb
  rw [hbb]
  clear hbb
  go_enter Tryd.func54, Tryd.ntmps54
  go_wp2_with fail
  refine (Tryd.slices_Contains_string Z 0 3 3 never x _ (by decide) (by decide) (HC.out _ rfl)).mono ?_
  rintro e w' ⟨rfl, rfl⟩
  rw [HBB.out]
  go_wp2_with fail
  go_ret
  exact ⟨rfl, 0, rfl⟩
/-- The pieces that strings.Split tells. -/
def pieces (s : ByteArray) : List ByteArray := Lib.splitB ⟨#[47]⟩ 0 (Lib.countB s ⟨#[47]⟩) s
theorem pieces_len (s : ByteArray) : (pieces s).length = Lib.countB s ⟨#[47]⟩ + 1 := Lib.splitB_all _ (by decide) _ _ _ rfl
theorem pieces_steps (s : ByteArray) : (pieces s).map (·.data.toList) = stepsL s.data.toList := by
  unfold pieces
  rw [Lib.splitB_data]
  exact split_steps s.data.toList
theorem pieces_any (s : ByteArray) : (pieces s).any badS = (stepsL s.data.toList).any badL := by
  rw [← pieces_steps, List.any_map]
  congr 1
  funext x
  exact bad_eq x
theorem pieces_cell (W : World) (l : List ByteArray) : ∀ j, j < l.length → (W.alloc (.cells (l.map Value.string).toArray 9)).cell? ⟨W.heap.size, 0 + j, none⟩ = some (.string l[j]!) := by
  intro j hj
  rw [Nat.zero_add, blk_cell (blk_new W _)]
  rw [List.getElem?_toArray, List.getElem?_map, List.getElem?_eq_getElem hj, getElem!_pos l j hj]
  rfl
set_option maxHeartbeats 1000000 in
theorem name_calls (s : ByteArray) (w : World) (hT : Tabs w) :
    Calls Tryd.prog 36 #[.string s] w fun e w' => e = .returned (.bool (nameL s.data.toList)) ∧ Below w.heap.size w w' := by
  have hlen : s.data.toList.length = s.size := rfl
  have HT := Aside0.mk hT
  clear hT
  by_cases h255 : s.size ≤ 255
  · have d0 : decide ((s.size : Int) ≤ 255) = true := decide_eq_true (by omega)
    have hval : nameL s.data.toList = (validD s.data.toList && !(pieces s).any badS) := by
      unfold nameL
      rw [hlen, decide_eq_true h255, Bool.true_and, pieces_any]
    have HV := Aside0.mk hval
    clear hval hlen
    go_enter Tryd.func36, Tryd.ntmps36
    go_wp2_with fail
    obtain ⟨Z, hZ⟩ : ∃ Z, Z = w.heap.size := ⟨_, rfl⟩
    have hB0 := below_alloc (Below.refl _ w) (.cells #[.string ⟨#[]⟩, .string ⟨#[46]⟩, .string ⟨#[46, 46]⟩] 78)
    have hk0 : (w.alloc (.cells #[.string ⟨#[]⟩, .string ⟨#[46]⟩, .string ⟨#[46, 46]⟩] 78)).heap[Z]? = some (.cells #[.string ⟨#[]⟩, .string ⟨#[46]⟩, .string ⟨#[46, 46]⟩] 78 (0, 0)) := by rw [hZ]; exact blk_new w _
    rw [← hZ]
    have HB0 := Aside0.mk hB0
    have HK0 := Aside0.mk hk0
    clear hB0 hk0 hZ
    generalize w.alloc (.cells #[.string ⟨#[]⟩, .string ⟨#[46]⟩, .string ⟨#[46, 46]⟩] 78) = W0 at HB0 HK0 ⊢
    refine (Tryd.utf8_ValidString s _ (by omega) (HT.out.below HB0.out).1).mono ?_
    rintro e w1 ⟨rfl, hb⟩
    have HB1 := Aside0.mk (HB0.out.trans (hb.mono HB0.out.size))
    have HK1 := Aside0.mk ((hb.block Z (blk_lt HK0.out)).trans HK0.out)
    clear hb HB0 HK0
    obtain ⟨vd, hvd⟩ : ∃ vd, validD s.data.toList = vd := ⟨_, rfl⟩
    have HVD := Aside0.mk hvd
    rw [hvd]
    clear hvd
    cases vd with
    | false =>
      go_wp2_with fail
      rw [HV.out, HVD.out]
      go_ret
      exact ⟨rfl, HB1.out⟩
    | true =>
      go_wp2_with fail
      obtain ⟨m, hm⟩ := (HT.out.below HB1.out).2
      refine (Tryd.strings_Split s ⟨#[47]⟩ m _ (by omega) hm (by decide)).mono ?_
      clear hm
      rintro e w2 ⟨rfl, rfl⟩
      have hc := pieces_cell w1 (pieces s)
      have hl := pieces_len s
      have hle : Lib.countB s ⟨#[47]⟩ ≤ s.size := Lib.countB_le _ (by decide) _ _ (Nat.le_refl _)
      have hB2 := below_alloc HB1.out (.cells ((pieces s).map Value.string).toArray 9)
      have hk2 := (Below.heap_alloc w1 (.cells ((pieces s).map Value.string).toArray 9) Z (blk_lt HK1.out)).trans HK1.out
      rw [show Lib.splitB ⟨#[47]⟩ 0 (Lib.countB s ⟨#[47]⟩) s = pieces s from rfl]
      obtain ⟨N, hN⟩ : ∃ N, N = Lib.countB s ⟨#[47]⟩ + 1 := ⟨_, rfl⟩
      rw [← hN] at hl ⊢
      have hN2 : N ≤ 9223372036854775807 := by omega
      have HPA := Aside0.mk (show PredAt Tryd.prog 54 #[.pointer (some ⟨Z, 0, none⟩)] Value.string badS (w1.alloc (.cells ((pieces s).map Value.string).toArray 9)) from fun W x hb => bad_calls Z _ W hk2 hb x)
      obtain ⟨B, hBB⟩ : ∃ B, B = w1.heap.size := ⟨_, rfl⟩
      rw [← hBB] at hc ⊢
      have HC := Aside0.mk hc
      have HB2 := Aside0.mk hB2
      have HL := Aside0.mk hl
      clear hc hl hle hB2 hk2 hN hBB
      generalize w1.alloc (.cells ((pieces s).map Value.string).toArray 9) = W2 at HC HPA HB2 ⊢
      go_wp2_with fail
      have hcall := Tryd.slices_ContainsFunc Value.string badS 54 #[.pointer (some ⟨Z, 0, none⟩)] (enters_of Tryd.func54 (by kernel_rfl) rfl) B 0 N N (pieces s) W2 HPA.out (by rw [HL.out]; exact Nat.le_refl _) hN2 HC.out
      rw [List.take_of_length_le (by rw [HL.out]; exact Nat.le_refl _)] at hcall
      refine hcall.mono ?_
      clear hcall
      rintro e w3 ⟨rfl, q, rfl⟩
      obtain ⟨bb, hbb⟩ : ∃ bb, (pieces s).any badS = bb := ⟨_, rfl⟩
      have HBB := Aside0.mk hbb
      rw [hbb]
      clear hbb
      have HB3 := Aside0.mk (pw_below_drewN HB2.out q)
      go_wp2_with fail
      rw [HV.out, HVD.out, HBB.out]
      go_ret
      exact ⟨by rw [Bool.true_and]; rfl, HB3.out⟩
  · have d0 : decide ((s.size : Int) ≤ 255) = false := decide_eq_false (by omega)
    have hval : nameL s.data.toList = false := by
      unfold nameL
      rw [hlen, decide_eq_false h255, Bool.false_and]
    have HV := Aside0.mk hval
    clear hval hlen
    go_enter Tryd.func36, Tryd.ntmps36
    go_wp2_with fail
    rw [HV.out]
    go_ret
    exact ⟨rfl, below_alloc (Below.refl _ w) _⟩
end Go.Proofs.YtbeibmdccjgcmaaDoor.Me
namespace Go.Proofs.YtbeibmdccjgcmaaDoor.Me
open Go.RowKit Go.Lib Go.Proofs.YtbeibmdccjgcmaaDoorW.PrintWords Go.Proofs.YtbeibmdccjgcmaaDoorW.PrintLast Go.Proofs.YtbeibmdccjgcmaaDoorW.PrintMore
set_option linter.unusedVariables false
set_option linter.unusedSimpArgs false
/-- What lies in memory while a text is read. -/
structure Rd (w W : World) (B : Nat) (s : ByteArray) (nm : ByteArray) (mo ti sz : Int) (su : ByteArray) (u : Nat) (bd : Bool) : Prop where
  s_ : W.heap[B]? = some (.cells #[.string s] 9 (0, 0))
  m_ : W.heap[B + 1]? = some (.cells #[.string nm, .int .i64 mo, .int .i64 ti, .int .i64 sz, .string su] 33 (0, 0))
  u_ : W.heap[B + 2]? = some (.cells #[.int .i64 (u : Int)] 3 (0, 0))
  b_ : W.heap[B + 3]? = some (.cells #[.bool bd] 4 (0, 0))
  t_ : W.heap[B + 4]? = some (.cells #[.func (.func 64) #[] #[.pointer (some ⟨B, 0, none⟩), .pointer (some ⟨B + 2, 0, none⟩), .pointer (some ⟨B + 3, 0, none⟩)]] 91 (0, 0))
  bel : Below w.heap.size w W
  lo : w.heap.size ≤ B
section
variable {w W W' : World} {B : Nat} {s nm : ByteArray} {mo ti sz : Int} {su : ByteArray} {u : Nat} {bd : Bool}
theorem Rd.below (h : Rd w W B s nm mo ti sz su u bd) (hb : Below W.heap.size W W') : Rd w W' B s nm mo ti sz su u bd :=
  ⟨(hb.block _ (blk_lt h.s_)).trans h.s_, (hb.block _ (blk_lt h.m_)).trans h.m_, (hb.block _ (blk_lt h.u_)).trans h.u_, (hb.block _ (blk_lt h.b_)).trans h.b_, (hb.block _ (blk_lt h.t_)).trans h.t_, h.bel.trans (hb.mono h.bel.size), h.lo⟩
theorem Rd.drew (h : Rd w W B s nm mo ti sz su u bd) : Rd w W.drew B s nm mo ti sz su u bd := h.below (below_drew (Below.refl _ _))
theorem far (W : World) (b k : Nat) (v : Value) (x : Nat) (h : x ≠ b) : (W.setCell ⟨b, k, none⟩ v).heap[x]? = W.heap[x]? := Below.heap_setCell W ⟨b, k, none⟩ v x h
theorem Rd.setU (h : Rd w W B s nm mo ti sz su u bd) (u' : Nat) : Rd w (W.setCell ⟨B + 2, 0, none⟩ (.int .i64 (u' : Int))) B s nm mo ti sz su u' bd :=
  ⟨(far W _ 0 _ _ (by omega)).trans h.s_, (far W _ 0 _ _ (by omega)).trans h.m_, (blk_set h.u_ 0 _).trans rfl, (far W _ 0 _ _ (by omega)).trans h.b_, (far W _ 0 _ _ (by omega)).trans h.t_, below_set h.bel (by have := h.lo; omega), h.lo⟩
theorem Rd.setB (h : Rd w W B s nm mo ti sz su u bd) (b' : Bool) : Rd w (W.setCell ⟨B + 3, 0, none⟩ (.bool b')) B s nm mo ti sz su u b' :=
  ⟨(far W _ 0 _ _ (by omega)).trans h.s_, (far W _ 0 _ _ (by omega)).trans h.m_, (far W _ 0 _ _ (by omega)).trans h.u_, (blk_set h.b_ 0 _).trans rfl, (far W _ 0 _ _ (by omega)).trans h.t_, below_set h.bel (by have := h.lo; omega), h.lo⟩
theorem Rd.set0 (h : Rd w W B s nm mo ti sz su u bd) (v : ByteArray) : Rd w (W.setCell ⟨B + 1, 0, none⟩ (.string v)) B s v mo ti sz su u bd :=
  ⟨(far W _ 0 _ _ (by omega)).trans h.s_, (blk_set h.m_ 0 _).trans rfl, (far W _ 0 _ _ (by omega)).trans h.u_, (far W _ 0 _ _ (by omega)).trans h.b_, (far W _ 0 _ _ (by omega)).trans h.t_, below_set h.bel (by have := h.lo; omega), h.lo⟩
theorem Rd.set1 (h : Rd w W B s nm mo ti sz su u bd) (v : Int) : Rd w (W.setCell ⟨B + 1, 1, none⟩ (.int .i64 v)) B s nm v ti sz su u bd :=
  ⟨(far W _ 1 _ _ (by omega)).trans h.s_, (blk_set h.m_ 1 _).trans rfl, (far W _ 1 _ _ (by omega)).trans h.u_, (far W _ 1 _ _ (by omega)).trans h.b_, (far W _ 1 _ _ (by omega)).trans h.t_, below_set h.bel (by have := h.lo; omega), h.lo⟩
theorem Rd.set2 (h : Rd w W B s nm mo ti sz su u bd) (v : Int) : Rd w (W.setCell ⟨B + 1, 2, none⟩ (.int .i64 v)) B s nm mo v sz su u bd :=
  ⟨(far W _ 2 _ _ (by omega)).trans h.s_, (blk_set h.m_ 2 _).trans rfl, (far W _ 2 _ _ (by omega)).trans h.u_, (far W _ 2 _ _ (by omega)).trans h.b_, (far W _ 2 _ _ (by omega)).trans h.t_, below_set h.bel (by have := h.lo; omega), h.lo⟩
theorem Rd.set3 (h : Rd w W B s nm mo ti sz su u bd) (v : Int) : Rd w (W.setCell ⟨B + 1, 3, none⟩ (.int .i64 v)) B s nm mo ti v su u bd :=
  ⟨(far W _ 3 _ _ (by omega)).trans h.s_, (blk_set h.m_ 3 _).trans rfl, (far W _ 3 _ _ (by omega)).trans h.u_, (far W _ 3 _ _ (by omega)).trans h.b_, (far W _ 3 _ _ (by omega)).trans h.t_, below_set h.bel (by have := h.lo; omega), h.lo⟩
theorem Rd.set4 (h : Rd w W B s nm mo ti sz su u bd) (v : ByteArray) : Rd w (W.setCell ⟨B + 1, 4, none⟩ (.string v)) B s nm mo ti sz v u bd :=
  ⟨(far W _ 4 _ _ (by omega)).trans h.s_, (blk_set h.m_ 4 _).trans rfl, (far W _ 4 _ _ (by omega)).trans h.u_, (far W _ 4 _ _ (by omega)).trans h.b_, (far W _ 4 _ _ (by omega)).trans h.t_, below_set h.bel (by have := h.lo; omega), h.lo⟩
end
/-- What is taken; where it ends; could it not be taken? -/
def takeT (s : ByteArray) (u n : Nat) : ByteArray := if u + n ≤ s.size then s.extract u (u + n) else ⟨#[]⟩
def takeU (s : ByteArray) (u n : Nat) : Nat := if u + n ≤ s.size then u + n else u
def takeB (s : ByteArray) (u n : Nat) : Bool := decide (¬ u + n ≤ s.size)
set_option maxHeartbeats 1000000 in
theorem take_calls {w W : World} {B : Nat} {s nm : ByteArray} {mo ti sz : Int} {su : ByteArray} {u : Nat} {bd : Bool} (h : Rd w W B s nm mo ti sz su u bd) (n : Nat) (hu : u ≤ s.size) (hs : s.size ≤ 1000000000000000) (hn : n ≤ 1000) :
    Calls Tryd.prog 64 #[.int .i64 (n : Int), .pointer (some ⟨B, 0, none⟩), .pointer (some ⟨B + 2, 0, none⟩), .pointer (some ⟨B + 3, 0, none⟩)] W fun e w' => e = .returned (.string (takeT s u n)) ∧ Rd w w' B s nm mo ti sz su (takeU s u n) (bd || takeB s u n) := by
  have c0 := (blk_cell h.s_ 0).trans (rfl : _ = some (Value.string s))
  have c2 := (blk_cell h.u_ 0).trans (rfl : _ = some (Value.int .i64 (u : Int)))
  have c3 := (blk_cell h.b_ 0).trans (rfl : _ = some (Value.bool bd))
  have z2 := blk_frozen h.u_ 0
  have z3 := blk_frozen h.b_ 0
  have H := Aside0.mk h
  by_cases hf : u + n ≤ s.size
  · have hT : takeT s u n = s.extract u (u + n) := if_pos hf
    have hU : takeU s u n = u + n := if_pos hf
    have hB : takeB s u n = false := decide_eq_false (fun k => k hf)
    have HH := Aside0.mk (And.intro hT (And.intro hU hB))
    obtain ⟨v, hv⟩ : ∃ v, v = u + n := ⟨_, rfl⟩
    have hvI : (u : Int) + (n : Int) = (v : Int) := by omega
    have hvs : v ≤ s.size := by omega
    have hsub : (v : Int) - (n : Int) = (u : Int) := by omega
    have d0 : decide ((s.size : Int) - (u : Int) < (n : Int)) = false := decide_eq_false (by omega)
    have h2 := Aside0.mk (h.setU v)
    have huv : u ≤ v := by omega
    clear h hT hU hB hf
    have HVV := Aside0.mk hv
    clear hv
    go_enter Tryd.func64, Tryd.ntmps64
    go_wp2_with fail
    go_ret
    obtain ⟨hT, hU, hB⟩ := HH.out
    rw [hT, hU, hB, Bool.or_false, ← HVV.out]
    exact ⟨rfl, h2.out⟩
  · have hT : takeT s u n = ⟨#[]⟩ := if_neg hf
    have hU : takeU s u n = u := if_neg hf
    have hB : takeB s u n = true := decide_eq_true hf
    have HH := Aside0.mk (And.intro hT (And.intro hU hB))
    have d0 : decide ((s.size : Int) - (u : Int) < (n : Int)) = true := decide_eq_true (by omega)
    have h2 := Aside0.mk (h.setB true)
    clear h hT hU hB hf
    go_enter Tryd.func64, Tryd.ntmps64
    go_wp2_with fail
    go_ret
    obtain ⟨hT, hU, hB⟩ := HH.out
    rw [hT, hU, hB, Bool.or_true]
    exact ⟨rfl, h2.out⟩
/-- A number's bytes, the highest first. -/
def beL : List Int → Int
  | l => l.foldl (fun n c => n * 256 + c) 0
theorem or_byte (Z x : Int) (h0 : 0 ≤ x) (h1 : x ≤ 255) : bits .or .i64 (wrap64 (IntKind.i64.wrap Z * 256)) (wrap64 x) = IntKind.i64.wrap (Z * 256 + x) := by
  show IntKind.i64.wrap ((BitVec.ofInt 64 (wrap64 (IntKind.i64.wrap Z * 256)) ||| BitVec.ofInt 64 (wrap64 x)).toNat : Int) = _
  rw [BitVec.toNat_or, BitVec.toNat_ofInt, BitVec.toNat_ofInt]
  have p64 : (((2 : Nat) ^ 64 : Nat) : Int) = 18446744073709551616 := by decide
  rw [p64]
  obtain ⟨a, ha⟩ : ∃ a : Nat, (a : Int) = Z % 72057594037927936 := ⟨(Z % 72057594037927936).toNat, by omega⟩
  have e1 : (wrap64 (IntKind.i64.wrap Z * 256) % 18446744073709551616).toNat = 2 ^ 8 * a := by
    rw [IntKind.wrap_i64]
    unfold wrap64
    omega
  have e2 : (wrap64 x % 18446744073709551616).toNat = x.toNat := by
    unfold wrap64
    omega
  rw [e1, e2, ← Nat.two_pow_add_eq_or_of_lt (i := 8) (by omega) a, IntKind.wrap_i64, IntKind.wrap_i64]
  omega
theorem be_snoc (l : List Int) (x : Int) : beL (l ++ [x]) = beL l * 256 + x := by simp [beL]
theorem be_take (t : ByteArray) (k : Nat) (h : k < t.size) : beL ((bytesOf t).take (k + 1)) = beL ((bytesOf t).take k) * 256 + (bytesOf t).getD k 0 ∧ 0 ≤ (bytesOf t).getD k 0 ∧ (bytesOf t).getD k 0 ≤ 255 := by
  have hl : k < (bytesOf t).length := by rw [bytesOf_length]; exact h
  rw [List.take_succ_eq_append_getElem hl, be_snoc]
  have e : (bytesOf t).getD k 0 = (bytesOf t)[k] := by simp [List.getD_eq_getElem?_getD, hl]
  rw [e]
  refine ⟨rfl, ?_⟩
  have hm := List.getElem_mem hl
  unfold bytesOf at hm
  obtain ⟨b, _, hb⟩ := List.mem_map.1 hm
  have hlt := b.toNat_lt
  unfold bytesOf
  omega
set_option maxHeartbeats 1000000 in
theorem get_calls {w W : World} {B : Nat} {s nm : ByteArray} {mo ti sz : Int} {su : ByteArray} {u : Nat} {bd : Bool} (h : Rd w W B s nm mo ti sz su u bd) (n : Nat) (hu : u ≤ s.size) (hs : s.size ≤ 1000000000000000) (hn : n ≤ 8) :
    Calls Tryd.prog 65 #[.int .i64 (n : Int), .pointer (some ⟨B + 4, 0, none⟩)] W fun e w' => e = .returned (.int .i64 (IntKind.i64.wrap (beL (bytesOf (takeT s u n))))) ∧ Rd w w' B s nm mo ti sz su (takeU s u n) (bd || takeB s u n) := by
  have c4 := (blk_cell h.t_ 0).trans (rfl : _ = some (Value.func (.func 64) #[] #[.pointer (some ⟨B, 0, none⟩), .pointer (some ⟨B + 2, 0, none⟩), .pointer (some ⟨B + 3, 0, none⟩)]))
  have HT := Aside0.mk (take_calls h n hu hs (by omega))
  have hts : (takeT s u n).size ≤ 8 := by unfold takeT; split; rw [ByteArray.size_extract]; omega; decide
  obtain ⟨t, ht⟩ : ∃ t, takeT s u n = t := ⟨_, rfl⟩
  rw [ht] at HT hts
  rw [ht]
  clear ht h
  have kb := fun W => print_bytes (P := Tryd.prog) 9 40 5 Tryd.underlying9 Tryd.underlying40 Tryd.underlying5 t W
  go_enter Tryd.func65, Tryd.ntmps65
  go_wp2_with fail
  refine HT.out.mono ?_
  rintro e w1 ⟨rfl, h1⟩
  have H1 := Aside0.mk h1
  clear h1 HT c4
  go_wp2_with fail
  have H2 := Aside0.mk (H1.out.below (bytes_below (Below.refl _ w1) (Nat.le_refl _) 5 t))
  have hcell : ∀ j, j < t.size → (Lib.bytesWorld w1 5 t).cell? ⟨w1.heap.size, j, none⟩ = some (.int .u8 ((bytesOf t).getD j 0)) := by
    intro j hj
    rw [Lib.bytesWorld_cell w1 5 t j hj]
    have h' : j < t.data.toList.length := hj
    simp [bytesOf, List.getD_eq_getElem?_getD, List.getElem?_eq_getElem h']
  have HC := Aside0.mk hcell
  clear hcell kb H1
  generalize w1.heap.size = D at HC ⊢
  generalize Lib.bytesWorld w1 5 t = W2 at HC H2 ⊢
  go_loop [4, 12] (fun v i => ∃ k : Nat, k ≤ t.size ∧ i = .int .i64 (k : Int) ∧ v = .int .i64 (IntKind.i64.wrap (beL ((bytesOf t).take k)))) (fun _ i => t.size - (intOf i).toNat)
  case atStart => exact ⟨0, Nat.zero_le _, rfl, rfl⟩
  case round =>
    obtain ⟨k, hk, rfl, rfl⟩ := hrel
    by_cases hlt : k < t.size
    · have hx := HC.out k hlt
      have hbe := Aside0.mk (be_take t k hlt)
      generalize (bytesOf t).getD k 0 = x at hx hbe
      obtain ⟨Zb, hZb⟩ : ∃ Zb, beL ((bytesOf t).take k) = Zb := ⟨_, rfl⟩
      rw [hZb] at hbe ⊢
      obtain ⟨y, hy⟩ : ∃ y, IntKind.i64.wrap Zb = y := ⟨_, rfl⟩
      have HY := Aside0.mk hy
      rw [hy]
      clear hZb hy
      go_wp2_with fail
      refine ⟨⟨k + 1, by omega, by go_num, ?_⟩, by simp [intOf]; omega⟩
      obtain ⟨q1, q2, q3⟩ := hbe.out
      rw [q1, ← or_byte _ _ q2 q3, HY.out]
    · obtain rfl : k = t.size := by omega
      go_wp2_with fail
      go_ret
      rw [List.take_of_length_le (by rw [bytesOf_length]; exact Nat.le_refl _)]
      exact ⟨rfl, H2.out⟩
end Go.Proofs.YtbeibmdccjgcmaaDoor.Me
namespace Go.Proofs.YtbeibmdccjgcmaaDoor.Me
open Go.RowKit Go.Lib Go.Proofs.YtbeibmdccjgcmaaDoorW.PrintWords Go.Proofs.YtbeibmdccjgcmaaDoorW.PrintLast Go.Proofs.YtbeibmdccjgcmaaDoorW.PrintMore
set_option linter.unusedVariables false
set_option linter.unusedSimpArgs false
section
variable {P : Program} {ops : Array Oper} {Q : Exit → Act → World → Prop}
/-- A call of a function value in a drawn region. -/
theorem goesV_ {oi : Oper} {N : Option Tmp} {a : Act} {w : World} {K : Act → World → Prop} {f : FuncId} {fn : Func} {cv : Operand} {az : Array Operand} {ts : Array TypeId} {lb : Array Value} (hf : P.funcs[f]? = some fn) (hname : (fn.name == "runtime.NumGoroutine") = false) (hb : fn.body.isSome = true) (args : Array Value)
    (hw : Region.wanted oi (yielded ops a.tmps) = true) (hN : oi.dst = N) (hop : oi.op = .call { callee := .value cv, args := az, argTypes := ts }) (hcv : a.eval cv = .func (.func f) #[] lb) (hargs : az.map a.eval ++ lb = args)
    (h : Calls P f args w fun e w' => ∃ v, e = .returned v ∧ K (a.put N v) w') : if Region.wanted oi (yielded ops a.tmps) = true then Oper.wp P oi a w K Q else K (a.put N undef) w := by
  refine call_ f args hw hN ?_ h
  have he := enters_ hf hname hb args w
  unfold execOp
  simp [hop, resolve, Deferred.ofValue, invoke, hcv, hargs, he]
end
/-- What is said of a file, but its name, may be. -/
def restB (mo ti sz : Int) (su : ByteArray) : Bool := decide (0 ≤ mo ∧ mo ≤ 65535 ∧ 0 ≤ ti ∧ ti ≤ 1099511627776 ∧ 0 ≤ sz ∧ sz ≤ 32768 ∧ su.size = 32)
set_option maxHeartbeats 1000000 in
theorem rest_calls (nm : ByteArray) (mo ti sz : Int) (su : ByteArray) (w : World) :
    Calls Tryd.prog 37 #[.agg #[.string nm, .int .i64 mo, .int .i64 ti, .int .i64 sz, .string su]] w fun e w' => e = .returned (.bool (restB mo ti sz su)) ∧ Below w.heap.size w w' := by
  by_cases h0 : (0 : Int) ≤ mo
  rotate_left
  · have d0 : decide ((0 : Int) ≤ mo) = false := decide_eq_false h0
    have HV := Aside0.mk (show restB mo ti sz su = false from decide_eq_false fun h => h0 h.1)
    go_enter Tryd.func37, Tryd.ntmps37
    go_wp2_with fail
    go_ret
    rw [HV.out]
    exact ⟨rfl, below_alloc (Below.refl _ w) _⟩
  by_cases h1 : mo ≤ 65535
  rotate_left
  · have d1 : decide (mo ≤ 65535) = false := decide_eq_false h1
    have d0 : decide ((0 : Int) ≤ mo) = true := decide_eq_true h0
    have HV := Aside0.mk (show restB mo ti sz su = false from decide_eq_false fun h => h1 h.2.1)
    go_enter Tryd.func37, Tryd.ntmps37
    go_wp2_with fail
    go_ret
    rw [HV.out]
    exact ⟨rfl, below_alloc (Below.refl _ w) _⟩
  by_cases h2 : (0 : Int) ≤ ti
  rotate_left
  · have d2 : decide ((0 : Int) ≤ ti) = false := decide_eq_false h2
    have d0 : decide ((0 : Int) ≤ mo) = true := decide_eq_true h0
    have d1 : decide (mo ≤ 65535) = true := decide_eq_true h1
    have HV := Aside0.mk (show restB mo ti sz su = false from decide_eq_false fun h => h2 h.2.2.1)
    go_enter Tryd.func37, Tryd.ntmps37
    go_wp2_with fail
    go_ret
    rw [HV.out]
    exact ⟨rfl, below_alloc (Below.refl _ w) _⟩
  by_cases h3 : ti ≤ 1099511627776
  rotate_left
  · have d3 : decide (ti ≤ 1099511627776) = false := decide_eq_false h3
    have d0 : decide ((0 : Int) ≤ mo) = true := decide_eq_true h0
    have d1 : decide (mo ≤ 65535) = true := decide_eq_true h1
    have d2 : decide ((0 : Int) ≤ ti) = true := decide_eq_true h2
    have HV := Aside0.mk (show restB mo ti sz su = false from decide_eq_false fun h => h3 h.2.2.2.1)
    go_enter Tryd.func37, Tryd.ntmps37
    go_wp2_with fail
    go_ret
    rw [HV.out]
    exact ⟨rfl, below_alloc (Below.refl _ w) _⟩
  by_cases h4 : (0 : Int) ≤ sz
  rotate_left
  · have d4 : decide ((0 : Int) ≤ sz) = false := decide_eq_false h4
    have d0 : decide ((0 : Int) ≤ mo) = true := decide_eq_true h0
    have d1 : decide (mo ≤ 65535) = true := decide_eq_true h1
    have d2 : decide ((0 : Int) ≤ ti) = true := decide_eq_true h2
    have d3 : decide (ti ≤ 1099511627776) = true := decide_eq_true h3
    have HV := Aside0.mk (show restB mo ti sz su = false from decide_eq_false fun h => h4 h.2.2.2.2.1)
    go_enter Tryd.func37, Tryd.ntmps37
    go_wp2_with fail
    go_ret
    rw [HV.out]
    exact ⟨rfl, below_alloc (Below.refl _ w) _⟩
  by_cases h5 : sz ≤ 32768
  rotate_left
  · have d5 : decide (sz ≤ 32768) = false := decide_eq_false h5
    have d0 : decide ((0 : Int) ≤ mo) = true := decide_eq_true h0
    have d1 : decide (mo ≤ 65535) = true := decide_eq_true h1
    have d2 : decide ((0 : Int) ≤ ti) = true := decide_eq_true h2
    have d3 : decide (ti ≤ 1099511627776) = true := decide_eq_true h3
    have d4 : decide ((0 : Int) ≤ sz) = true := decide_eq_true h4
    have HV := Aside0.mk (show restB mo ti sz su = false from decide_eq_false fun h => h5 h.2.2.2.2.2.1)
    go_enter Tryd.func37, Tryd.ntmps37
    go_wp2_with fail
    go_ret
    rw [HV.out]
    exact ⟨rfl, below_alloc (Below.refl _ w) _⟩
  by_cases h6 : su.size = 32
  rotate_left
  · have d6 : ((su.size : Int) == 32) = false := beq_eq_false_iff_ne.mpr (by omega)
    have d0 : decide ((0 : Int) ≤ mo) = true := decide_eq_true h0
    have d1 : decide (mo ≤ 65535) = true := decide_eq_true h1
    have d2 : decide ((0 : Int) ≤ ti) = true := decide_eq_true h2
    have d3 : decide (ti ≤ 1099511627776) = true := decide_eq_true h3
    have d4 : decide ((0 : Int) ≤ sz) = true := decide_eq_true h4
    have d5 : decide (sz ≤ 32768) = true := decide_eq_true h5
    have HV := Aside0.mk (show restB mo ti sz su = false from decide_eq_false fun h => h6 h.2.2.2.2.2.2)
    clear h6
    go_enter Tryd.func37, Tryd.ntmps37
    go_wp2_with fail
    go_ret
    rw [HV.out]
    exact ⟨rfl, below_alloc (Below.refl _ w) _⟩
  have d6 : ((su.size : Int) == 32) = true := beq_iff_eq.mpr (by omega)
  have d0 : decide ((0 : Int) ≤ mo) = true := decide_eq_true h0
  have d1 : decide (mo ≤ 65535) = true := decide_eq_true h1
  have d2 : decide ((0 : Int) ≤ ti) = true := decide_eq_true h2
  have d3 : decide (ti ≤ 1099511627776) = true := decide_eq_true h3
  have d4 : decide ((0 : Int) ≤ sz) = true := decide_eq_true h4
  have d5 : decide (sz ≤ 32768) = true := decide_eq_true h5
  have HV := Aside0.mk (show restB mo ti sz su = true from decide_eq_true ⟨h0, h1, h2, h3, h4, h5, h6⟩)
  clear h6
  go_enter Tryd.func37, Tryd.ntmps37
  go_wp2_with fail
  go_ret
  rw [HV.out]
  exact ⟨rfl, below_alloc (Below.refl _ w) _⟩
/-- What is said of a file may be. -/
def mayB (nm : ByteArray) (mo ti sz : Int) (su : ByteArray) : Bool := nameL nm.data.toList && restB mo ti sz su
set_option maxHeartbeats 1000000 in
theorem may_calls (nm : ByteArray) (mo ti sz : Int) (su : ByteArray) (w : World) (hT : Tabs w) :
    Calls Tryd.prog 20 #[.agg #[.string nm, .int .i64 mo, .int .i64 ti, .int .i64 sz, .string su]] w fun e w' => e = .returned (.bool (mayB nm mo ti sz su)) ∧ Below w.heap.size w w' := by
  have HT := Aside0.mk hT
  clear hT
  unfold mayB
  have HN := Aside0.mk (fun W (h : Tabs W) => name_calls nm W h)
  have HR := Aside0.mk (fun W => rest_calls nm mo ti sz su W)
  generalize nameL nm.data.toList = b1 at HN ⊢
  generalize restB mo ti sz su = b2 at HR ⊢
  go_enter Tryd.func20, Tryd.ntmps20
  go_wp2_with fail
  have hB0 := below_alloc (Below.refl _ w) (.cells #[.string nm, .int .i64 mo, .int .i64 ti, .int .i64 sz, .string su] 33)
  have hk0 := blk_new w (.cells #[.string nm, .int .i64 mo, .int .i64 ti, .int .i64 sz, .string su] 33)
  generalize w.alloc (.cells #[.string nm, .int .i64 mo, .int .i64 ti, .int .i64 sz, .string su] 33) = W0 at hB0 hk0 ⊢
  obtain ⟨Z, hZ⟩ : ∃ Z, Z = w.heap.size := ⟨_, rfl⟩
  rw [← hZ] at hk0 ⊢
  clear hZ
  have HB0 := Aside0.mk hB0
  have HK0 := Aside0.mk hk0
  clear hB0 hk0
  refine (HN.out _ (HT.out.below HB0.out)).mono ?_
  rintro e w1 ⟨rfl, hb⟩
  have HB1 := Aside0.mk (HB0.out.trans (hb.mono HB0.out.size))
  have hk1 : w1.heap[Z]? = _ := (hb.block Z (blk_lt HK0.out)).trans HK0.out
  have c0 := (blk_cell hk1 0).trans (rfl : _ = some (Value.string nm))
  have c1 := (blk_cell hk1 1).trans (rfl : _ = some (Value.int .i64 mo))
  have c2 := (blk_cell hk1 2).trans (rfl : _ = some (Value.int .i64 ti))
  have c3 := (blk_cell hk1 3).trans (rfl : _ = some (Value.int .i64 sz))
  have c4 := (blk_cell hk1 4).trans (rfl : _ = some (Value.string su))
  clear hb hk1 HK0 HB0 HN
  cases b1 with
  | true =>
    go_wp2_with fail
    refine (HR.out _).mono ?_
    rintro e w2 ⟨rfl, hb⟩
    have HB2 := Aside0.mk (HB1.out.trans (hb.mono HB1.out.size))
    clear hb c0 c1 c2 c3 c4
    go_wp2_with fail
    go_ret
    exact ⟨rfl, HB2.out⟩
  | false =>
    go_wp2_with fail
    go_ret
    exact ⟨rfl, HB1.out⟩
/-- What is read: the states, one behind the other. -/
def num (s : ByteArray) (u n : Nat) : Int := IntKind.i64.wrap (beL (bytesOf (takeT s u n)))
theorem num_one (s : ByteArray) (u : Nat) : ∃ k : Nat, num s u 1 = (k : Int) ∧ k ≤ 255 := by
  unfold num takeT
  by_cases h : u + 1 ≤ s.size
  · rw [if_pos h]
    have hz : (s.extract u (u + 1)).size = 1 := by rw [ByteArray.size_extract]; omega
    obtain ⟨h1, h2, h3⟩ := be_take (s.extract u (u + 1)) 0 (by omega)
    rw [List.take_of_length_le (by rw [bytesOf_length]; omega)] at h1
    have h0 : beL ((bytesOf (s.extract u (u + 1))).take 0) = 0 := rfl
    rw [h0] at h1
    generalize (bytesOf (s.extract u (u + 1))).getD 0 0 = x at h1 h2 h3
    refine ⟨x.toNat, ?_, by omega⟩
    rw [h1, IntKind.wrap_i64]
    omega
  · rw [if_neg h]
    exact ⟨0, by decide, by decide⟩
theorem takeU_le (s : ByteArray) (u n : Nat) (h : u ≤ s.size) : takeU s u n ≤ s.size := by unfold takeU; split <;> omega
/-- What Read tells: what is said, how many bytes, the error. -/
structure Ans where
  nm : ByteArray
  mo : Int
  ti : Int
  sz : Int
  su : ByteArray
  used : Nat
  e : Int
def readA (s : ByteArray) : Ans :=
  if (((((false || takeB s 0 1) || takeB s (takeU s 0 1) (num s 0 1).toNat) || takeB s (takeU s (takeU s 0 1) (num s 0 1).toNat) 2) || takeB s (takeU s (takeU s (takeU s 0 1) (num s 0 1).toNat) 2) 8) || takeB s (takeU s (takeU s (takeU s (takeU s 0 1) (num s 0 1).toNat) 2) 8) 4 || takeB s (takeU s (takeU s (takeU s (takeU s (takeU s 0 1) (num s 0 1).toNat) 2) 8) 4) 32) = true then ⟨⟨#[]⟩, 0, 0, 0, ⟨#[]⟩, 0, 4⟩
  else if mayB (takeT s (takeU s 0 1) (num s 0 1).toNat) (num s (takeU s (takeU s 0 1) (num s 0 1).toNat) 2) (num s (takeU s (takeU s (takeU s 0 1) (num s 0 1).toNat) 2) 8) (num s (takeU s (takeU s (takeU s (takeU s 0 1) (num s 0 1).toNat) 2) 8) 4) (takeT s (takeU s (takeU s (takeU s (takeU s (takeU s 0 1) (num s 0 1).toNat) 2) 8) 4) 32) = true then
    ⟨takeT s (takeU s 0 1) (num s 0 1).toNat, num s (takeU s (takeU s 0 1) (num s 0 1).toNat) 2, num s (takeU s (takeU s (takeU s 0 1) (num s 0 1).toNat) 2) 8, num s (takeU s (takeU s (takeU s (takeU s 0 1) (num s 0 1).toNat) 2) 8) 4, takeT s (takeU s (takeU s (takeU s (takeU s (takeU s 0 1) (num s 0 1).toNat) 2) 8) 4) 32, takeU s (takeU s (takeU s (takeU s (takeU s (takeU s 0 1) (num s 0 1).toNat) 2) 8) 4) 32, 0⟩
  else ⟨⟨#[]⟩, 0, 0, 0, ⟨#[]⟩, 0, 4⟩
theorem Rd.made (w : World) (s : ByteArray) (o1 o2 o3 o4 o5 : Obj) (h1 : o1 = .cells #[.string s] 9 (0, 0)) (h2 : o2 = .cells #[.string ⟨#[]⟩, .int .i64 0, .int .i64 0, .int .i64 0, .string ⟨#[]⟩] 33 (0, 0)) (h3 : o3 = .cells #[.int .i64 0] 3 (0, 0)) (h4 : o4 = .cells #[.bool false] 4 (0, 0))
    (h5 : o5 = .cells #[.func (.func 64) #[] #[.pointer (some ⟨w.heap.size, 0, none⟩), .pointer (some ⟨w.heap.size + 2, 0, none⟩), .pointer (some ⟨w.heap.size + 3, 0, none⟩)]] 91 (0, 0)) :
    Rd w (((((w.alloc o1).alloc o2).alloc o3).alloc o4).alloc o5) w.heap.size s ⟨#[]⟩ 0 0 0 ⟨#[]⟩ 0 false := by
  have z1 : (w.alloc o1).heap.size = w.heap.size + 1 := by simp
  have z2 : ((w.alloc o1).alloc o2).heap.size = w.heap.size + 2 := by simp
  have z3 : (((w.alloc o1).alloc o2).alloc o3).heap.size = w.heap.size + 3 := by simp
  have z4 : ((((w.alloc o1).alloc o2).alloc o3).alloc o4).heap.size = w.heap.size + 4 := by simp
  have b1 := blk_new w o1
  have b2 := blk_new (w.alloc o1) o2
  have b3 := blk_new ((w.alloc o1).alloc o2) o3
  have b4 := blk_new (((w.alloc o1).alloc o2).alloc o3) o4
  have b5 := blk_new ((((w.alloc o1).alloc o2).alloc o3).alloc o4) o5
  rw [z1] at b2
  rw [z2] at b3
  rw [z3] at b4
  rw [z4] at b5
  have a2 : ∀ k, k < w.heap.size + 1 → ((w.alloc o1).alloc o2).heap[k]? = (w.alloc o1).heap[k]? := fun k hk => Below.heap_alloc _ _ _ (by rw [z1]; exact hk)
  have a3 : ∀ k, k < w.heap.size + 2 → (((w.alloc o1).alloc o2).alloc o3).heap[k]? = ((w.alloc o1).alloc o2).heap[k]? := fun k hk => Below.heap_alloc _ _ _ (by rw [z2]; exact hk)
  have a4 : ∀ k, k < w.heap.size + 3 → ((((w.alloc o1).alloc o2).alloc o3).alloc o4).heap[k]? = (((w.alloc o1).alloc o2).alloc o3).heap[k]? := fun k hk => Below.heap_alloc _ _ _ (by rw [z3]; exact hk)
  have a5 : ∀ k, k < w.heap.size + 4 → (((((w.alloc o1).alloc o2).alloc o3).alloc o4).alloc o5).heap[k]? = ((((w.alloc o1).alloc o2).alloc o3).alloc o4).heap[k]? := fun k hk => Below.heap_alloc _ _ _ (by rw [z4]; exact hk)
  refine ⟨?_, ?_, ?_, ?_, ?_, below_alloc (below_alloc (below_alloc (below_alloc (below_alloc (Below.refl _ w) _) _) _) _) _, Nat.le_refl _⟩
  · rw [a5 _ (by omega), a4 _ (by omega), a3 _ (by omega), a2 _ (by omega), b1, h1]
  · rw [a5 _ (by omega), a4 _ (by omega), a3 _ (by omega), b2, h2]
  · rw [a5 _ (by omega), a4 _ (by omega), b3, h3]; rfl
  · rw [a5 _ (by omega), b4, h4]
  · rw [b5, h5]
set_option maxHeartbeats 4000000 in
set_option maxRecDepth 100000 in
theorem read_calls (s : ByteArray) (w : World) (hT : Tabs w) (hs : s.size ≤ 1000000000000000) :
    Calls Tryd.prog 53 #[.string s] w fun e w' => e = .returned (.tuple #[.agg #[.string (readA s).nm, .int .i64 (readA s).mo, .int .i64 (readA s).ti, .int .i64 (readA s).sz, .string (readA s).su], .int .i64 ((readA s).used : Int), .int .i64 (readA s).e]) ∧ Below w.heap.size w w' := by
  have HT := Aside0.mk hT
  clear hT
  obtain ⟨R, hR⟩ : ∃ R, R = readA s := ⟨_, rfl⟩
  rw [← hR]
  unfold readA at hR
  obtain ⟨n0, hn0, hn1⟩ := num_one s 0
  rw [hn0, Int.toNat_natCast] at hR
  have hu1 := takeU_le s 0 1 (Nat.zero_le _)
  have hu2 := takeU_le s _ n0 hu1
  have hu3 := takeU_le s _ 2 hu2
  have hu4 := takeU_le s _ 8 hu3
  have hu5 := takeU_le s _ 4 hu4
  have hu6 := takeU_le s _ 32 hu5
  have HN0 := Aside0.mk hn0
  have HRR := Aside0.mk hR
  clear hn0 hR
  obtain ⟨B, hB⟩ : ∃ B, B = w.heap.size := ⟨_, rfl⟩
  go_enter Tryd.func53, Tryd.ntmps53
  go_upto_region 4 with fail
  have R0 := Aside0.mk (Rd.made w s _ _ _ _ _ rfl rfl rfl rfl rfl)
  rw [show w.heap.size + 1 + 1 + 1 + 1 = w.heap.size + 4 from rfl, show w.heap.size + 1 + 1 + 1 = w.heap.size + 3 from rfl, show w.heap.size + 1 + 1 = w.heap.size + 2 from rfl]
  rw [← hB] at R0 ⊢
  generalize ((((w.alloc (.cells #[.string s] 9)).alloc (.cells #[.string ⟨#[]⟩, .int .i64 0, .int .i64 0, .int .i64 0, .string ⟨#[]⟩] 33)).alloc (.cells #[.int .i64 0] 3)).alloc (.cells #[.bool false] 4)).alloc (.cells #[.func (.func 64) #[] #[.pointer (some ⟨B, 0, none⟩), .pointer (some ⟨B + 2, 0, none⟩), .pointer (some ⟨B + 3, 0, none⟩)]] 91) = W0 at R0 ⊢
  clear hB
  have R1 := Aside0.mk R0.out.drew
  have G1 := get_calls R1.out 1 (Nat.zero_le _) hs (by decide)
  rw [show ((1 : Nat) : Int) = 1 from rfl] at G1
  have G2 := Aside0.mk G1
  clear R0 G1
  refine start_ (n := 6) (S := fun w' => w'.cell? ⟨B + 4, 0, none⟩ = some (.func (.func 64) #[] #[.pointer (some ⟨B, 0, none⟩), .pointer (some ⟨B + 2, 0, none⟩), .pointer (some ⟨B + 3, 0, none⟩)])) (ds := [5]) #[false, false, false, false, false, false] (by kernel_rfl) rfl rfl ((blk_cell R1.out.t_ 0).trans rfl) (fun hHeld => ?_)
  refine pure_ (i := 1) (N := some 11) (v := ?_) (a' := ?_) #[false, true, false, false, false, false] rfl rfl (by kernel_rfl) (fun _ _ _ h => h) (Or.inl ⟨by rfl, ?_⟩) ?_ ?_
  rotate_left
  · intro w'
    go_simp
    with_reducible rfl
  rotate_left
  · simp only [Act.put, List.setIfInBounds_toArray, List.set_cons_zero, List.set_cons_succ, i64_w, i32_w]
    rfl
  refine take_ (i := 0) (N := some 10) (v := ?_) (a' := ?_) #[true, true, false, false, false, false] rfl rfl (by kernel_rfl) (fun _ _ _ h => h) (Or.inl ⟨by rfl, ?_⟩) hHeld ?_ ?_
  rotate_left
  · intro w' s0
    go_simp
    with_reducible rfl
  rotate_left
  · simp only [Act.put, List.setIfInBounds_toArray, List.set_cons_zero, List.set_cons_succ, i64_w, i32_w]
    rfl
  refine one_ (i := 2) (N := some 12) #[true, true, true, false, false, false] rfl rfl (by kernel_rfl) (by decide) (fun K hK => ?_)
  refine goesV_ (lb := #[.pointer (some ⟨B + 4, 0, none⟩)]) Tryd.func65 (by kernel_rfl) rfl #[.int .i64 1, .pointer (some ⟨B + 4, 0, none⟩)] (by rfl) rfl rfl (by rfl) (by first | rfl | (simp; done) | (simp; rfl)) ?_
  with_reducible refine (G2.out).mono ?_
  rintro e w1 ⟨rfl, h2⟩
  refine ⟨_, rfl, ?_⟩
  have R2 := Aside0.mk h2
  rw [show IntKind.i64.wrap (beL (bytesOf (takeT s 0 1))) = (n0 : Int) from HN0.out]
  clear h2
  refine hK.out _ _ ((blk_cell R2.out.t_ 0).trans rfl) (fun hHeld => ?_)
  clear hK K
  refine norm_ (a' := ?_) ?_ ?_
  rotate_left
  · show Act.put _ (some 12) _ = _
    simp only [Act.put, List.setIfInBounds_toArray, List.set_cons_zero, List.set_cons_succ, i64_w, i32_w]
    rfl
  refine one_ (i := 3) (N := some 13) #[true, true, true, true, false, false] rfl rfl (by kernel_rfl) (by decide) (fun K hK => ?_)
  refine goesV_ (lb := #[.pointer (some ⟨B, 0, none⟩), .pointer (some ⟨B + 2, 0, none⟩), .pointer (some ⟨B + 3, 0, none⟩)]) Tryd.func64 (by kernel_rfl) rfl #[.int .i64 (n0 : Int), .pointer (some ⟨B, 0, none⟩), .pointer (some ⟨B + 2, 0, none⟩), .pointer (some ⟨B + 3, 0, none⟩)] (by rfl) rfl rfl (by rfl) (by first | rfl | (simp; done) | (simp; rfl)) ?_
  with_reducible refine (take_calls R2.out n0 hu1 hs (by omega)).mono ?_
  rintro e w2 ⟨rfl, h3⟩
  refine ⟨_, rfl, ?_⟩
  have R3 := Aside0.mk h3
  have m0 := (blk_cell R3.out.m_ 0).trans (rfl : _ = some (Value.string ⟨#[]⟩))
  have z0 := blk_frozen R3.out.m_ 0
  clear h3
  refine hK.out _ _ ((blk_cell R3.out.t_ 0).trans rfl) (fun hHeld => ?_)
  clear hK K
  refine norm_ (a' := ?_) ?_ ?_
  rotate_left
  · show Act.put _ (some 13) _ = _
    simp only [Act.put, List.setIfInBounds_toArray, List.set_cons_zero, List.set_cons_succ, i64_w, i32_w]
    rfl
  refine pure_ (i := 4) (N := some 14) (v := ?_) (a' := ?_) #[true, true, true, true, true, false] rfl rfl (by kernel_rfl) (fun _ _ _ h => h) (Or.inl ⟨by rfl, ?_⟩) ?_ ?_
  rotate_left
  · intro w'
    go_simp
    with_reducible rfl
  rotate_left
  · simp only [Act.put, List.setIfInBounds_toArray, List.set_cons_zero, List.set_cons_succ, i64_w, i32_w]
    rfl
  refine last_ (i := 5) (N := none) #[true, true, true, true, true, true] rfl rfl (by kernel_rfl) (by decide) (fun K hK => ?_)
  refine skip_ (w1 := ?_) (by rfl) rfl ?_ ?_
  rotate_left
  · go_simp
    rfl
  refine hK.out _ _ ?_
  clear hK K
  refine done_ (by kernel_rfl) ?_
  have R4 := Aside0.mk (R3.out.set0 (takeT s (takeU s 0 1) n0))
  clear R1 R2 R3 G2 m0 z0 hHeld
  generalize w2.setCell ⟨B + 1, 0, none⟩ (.string (takeT s (takeU s 0 1) n0)) = W4 at R4 ⊢
  obtain ⟨nm, hnm⟩ : ∃ nm, nm = takeT s (takeU s 0 1) n0 := ⟨_, rfl⟩
  rw [← hnm] at R4 HRR
  clear hnm
  have G1 := get_calls R4.out 2 hu2 hs (by decide)
  rw [show ((2 : Nat) : Int) = 2 from rfl] at G1
  have G2 := Aside0.mk G1
  clear G1
  go_wp2_with fail
  refine G2.out.mono ?_
  rintro e w5 ⟨rfl, h5⟩
  have R5 := Aside0.mk h5
  have G1 := get_calls h5 8 hu3 hs (by decide)
  rw [show ((8 : Nat) : Int) = 8 from rfl] at G1
  clear R4 G2 h5
  have G2 := Aside0.mk G1
  clear G1
  rw [show IntKind.i64.wrap (beL (bytesOf (takeT s (takeU s (takeU s 0 1) n0) 2))) = num s (takeU s (takeU s 0 1) n0) 2 from rfl]
  generalize num s (takeU s (takeU s 0 1) n0) 2 = mo at HRR ⊢
  go_wp2_with fail
  refine G2.out.mono ?_
  rintro e w6 ⟨rfl, h6⟩
  have R6 := Aside0.mk h6
  have G1 := get_calls h6 4 hu4 hs (by decide)
  rw [show ((4 : Nat) : Int) = 4 from rfl] at G1
  clear R5 G2 h6
  have G2 := Aside0.mk G1
  clear G1
  rw [show IntKind.i64.wrap (beL (bytesOf (takeT s (takeU s (takeU s (takeU s 0 1) n0) 2) 8))) = num s (takeU s (takeU s (takeU s 0 1) n0) 2) 8 from rfl]
  generalize num s (takeU s (takeU s (takeU s 0 1) n0) 2) 8 = ti at HRR ⊢
  go_wp2_with fail
  refine G2.out.mono ?_
  rintro e w7 ⟨rfl, h7⟩
  rw [show IntKind.i64.wrap (beL (bytesOf (takeT s (takeU s (takeU s (takeU s (takeU s 0 1) n0) 2) 8) 4))) = num s (takeU s (takeU s (takeU s (takeU s 0 1) n0) 2) 8) 4 from rfl]
  generalize num s (takeU s (takeU s (takeU s (takeU s 0 1) n0) 2) 8) 4 = sz at HRR ⊢
  have m1 := (blk_cell h7.m_ 1).trans (rfl : _ = some (Value.int .i64 0))
  have m2 := (blk_cell h7.m_ 2).trans (rfl : _ = some (Value.int .i64 0))
  have m3 := (blk_cell h7.m_ 3).trans (rfl : _ = some (Value.int .i64 0))
  have f1 := blk_frozen h7.m_ 1
  have f2 := blk_frozen h7.m_ 2
  have f3 := blk_frozen h7.m_ 3
  have R8 := Aside0.mk (((h7.set1 mo).set2 ti).set3 sz)
  clear R6 G2 h7
  go_upto_region 6 with fail
  generalize ((w7.setCell ⟨B + 1, 1, none⟩ (.int .i64 mo)).setCell ⟨B + 1, 2, none⟩ (.int .i64 ti)).setCell ⟨B + 1, 3, none⟩ (.int .i64 sz) = W8 at R8 ⊢
  clear m1 m2 m3 f1 f2 f3
  have c4 := (blk_cell R8.out.t_ 0).trans (rfl : _ = some (Value.func (.func 64) #[] #[.pointer (some ⟨B, 0, none⟩), .pointer (some ⟨B + 2, 0, none⟩), .pointer (some ⟨B + 3, 0, none⟩)]))
  have G1 := take_calls R8.out 32 hu5 hs (by decide)
  rw [show ((32 : Nat) : Int) = 32 from rfl] at G1
  have G2 := Aside0.mk G1
  clear G1
  go_wp2_with fail
  refine G2.out.mono ?_
  rintro e w9 ⟨rfl, h9⟩
  have m4 := (blk_cell h9.m_ 4).trans (rfl : _ = some (Value.string ⟨#[]⟩))
  have f4 := blk_frozen h9.m_ 4
  have R9 := Aside0.mk (h9.set4 (takeT s (takeU s (takeU s (takeU s (takeU s (takeU s 0 1) n0) 2) 8) 4) 32))
  clear R8 G2 h9 c4
  generalize takeT s (takeU s (takeU s (takeU s (takeU s (takeU s 0 1) n0) 2) 8) 4) 32 = su at HRR R9 ⊢
  generalize takeU s (takeU s (takeU s (takeU s (takeU s (takeU s 0 1) n0) 2) 8) 4) 32 = ue at HRR R9 hu6 ⊢
  generalize (((((false || takeB s 0 1) || takeB s (takeU s 0 1) n0) || takeB s (takeU s (takeU s 0 1) n0) 2) || takeB s (takeU s (takeU s (takeU s 0 1) n0) 2) 8) || takeB s (takeU s (takeU s (takeU s (takeU s 0 1) n0) 2) 8) 4 || takeB s (takeU s (takeU s (takeU s (takeU s (takeU s 0 1) n0) 2) 8) 4) 32) = bd at HRR R9
  go_upto_region 7 with fail
  generalize w9.setCell ⟨B + 1, 4, none⟩ (.string su) = W9 at R9 ⊢
  clear m4 f4
  have c0 := (blk_cell R9.out.m_ 0).trans (rfl : _ = some (Value.string nm))
  have c1 := (blk_cell R9.out.m_ 1).trans (rfl : _ = some (Value.int .i64 mo))
  have c2 := (blk_cell R9.out.m_ 2).trans (rfl : _ = some (Value.int .i64 ti))
  have c3 := (blk_cell R9.out.m_ 3).trans (rfl : _ = some (Value.int .i64 sz))
  have c4 := (blk_cell R9.out.m_ 4).trans (rfl : _ = some (Value.string su))
  have b0 := (blk_cell R9.out.b_ 0).trans (rfl : _ = some (Value.bool bd))
  cases bd with
  | true =>
    have HE := Aside0.mk (show R = ⟨⟨#[]⟩, 0, 0, 0, ⟨#[]⟩, 0, 4⟩ by have := HRR.out; rw [if_pos rfl] at this; exact this)
    clear HRR
    have z0 := blk_frozen R9.out.m_ 0
    have z1 := blk_frozen R9.out.m_ 1
    have z2 := blk_frozen R9.out.m_ 2
    have z3 := blk_frozen R9.out.m_ 3
    have z4 := blk_frozen R9.out.m_ 4
    have u0 := (blk_cell R9.out.u_ 0).trans (rfl : _ = some (Value.int .i64 (ue : Int)))
    have y0 := blk_frozen R9.out.u_ 0
    have R10 := Aside0.mk ((((((R9.out.set0 ⟨#[]⟩).set1 0).set2 0).set3 0).set4 ⟨#[]⟩).setU 0)
    clear R9
    go_wp2_with fail
    generalize ((((((W9.setCell ⟨B + 1, 0, none⟩ (.string ⟨#[]⟩)).setCell ⟨B + 1, 1, none⟩ (.int .i64 0)).setCell ⟨B + 1, 2, none⟩ (.int .i64 0)).setCell ⟨B + 1, 3, none⟩ (.int .i64 0)).setCell ⟨B + 1, 4, none⟩ (.string ⟨#[]⟩)).setCell ⟨B + 2, 0, none⟩ (.int .i64 ((0 : Nat) : Int))) = WE at R10
    clear c0 c1 c2 c3 c4 z0 z1 z2 z3 z4 u0 y0
    have c0 := (blk_cell R10.out.m_ 0).trans (rfl : _ = some (Value.string ⟨#[]⟩))
    have c1 := (blk_cell R10.out.m_ 1).trans (rfl : _ = some (Value.int .i64 0))
    have c2 := (blk_cell R10.out.m_ 2).trans (rfl : _ = some (Value.int .i64 0))
    have c3 := (blk_cell R10.out.m_ 3).trans (rfl : _ = some (Value.int .i64 0))
    have c4 := (blk_cell R10.out.m_ 4).trans (rfl : _ = some (Value.string ⟨#[]⟩))
    have u0 := (blk_cell R10.out.u_ 0).trans (rfl : _ = some (Value.int .i64 0))
    refine bodyPost_ret (v := .tuple #[.agg #[.string ⟨#[]⟩, .int .i64 0, .int .i64 0, .int .i64 0, .string ⟨#[]⟩], .int .i64 0, .int .i64 4]) (by simp [results, Tryd.results53, go_sem, c0, c1, c2, c3, c4, u0]) rfl ⟨?_, R10.out.bel⟩
    rw [HE.out]
    rfl
  | false =>
    have HRR2 := Aside0.mk (show R = if mayB nm mo ti sz su = true then ⟨nm, mo, ti, sz, su, ue, 0⟩ else ⟨⟨#[]⟩, 0, 0, 0, ⟨#[]⟩, 0, 4⟩ by have := HRR.out; rw [if_neg (by decide)] at this; exact this)
    clear HRR
    have HM := Aside0.mk (may_calls nm mo ti sz su W9 (HT.out.below R9.out.bel))
    go_wp2_with fail
    refine HM.out.mono ?_
    rintro e wA ⟨rfl, hb⟩
    have RA := Aside0.mk (R9.out.below hb)
    clear hb HM c0 c1 c2 c3 c4 b0 R9
    have R9 := RA
    clear RA
    have c0 := (blk_cell R9.out.m_ 0).trans (rfl : _ = some (Value.string nm))
    have c1 := (blk_cell R9.out.m_ 1).trans (rfl : _ = some (Value.int .i64 mo))
    have c2 := (blk_cell R9.out.m_ 2).trans (rfl : _ = some (Value.int .i64 ti))
    have c3 := (blk_cell R9.out.m_ 3).trans (rfl : _ = some (Value.int .i64 sz))
    have c4 := (blk_cell R9.out.m_ 4).trans (rfl : _ = some (Value.string su))
    obtain ⟨mb, hmb⟩ : ∃ mb, mayB nm mo ti sz su = mb := ⟨_, rfl⟩
    rw [hmb] at HRR2 ⊢
    clear hmb
    cases mb with
    | false =>
      have HE := Aside0.mk (show R = ⟨⟨#[]⟩, 0, 0, 0, ⟨#[]⟩, 0, 4⟩ by have := HRR2.out; rw [if_neg (by decide)] at this; exact this)
      clear HRR2
      have z0 := blk_frozen R9.out.m_ 0
      have z1 := blk_frozen R9.out.m_ 1
      have z2 := blk_frozen R9.out.m_ 2
      have z3 := blk_frozen R9.out.m_ 3
      have z4 := blk_frozen R9.out.m_ 4
      have u0 := (blk_cell R9.out.u_ 0).trans (rfl : _ = some (Value.int .i64 (ue : Int)))
      have y0 := blk_frozen R9.out.u_ 0
      have R10 := Aside0.mk ((((((R9.out.set0 ⟨#[]⟩).set1 0).set2 0).set3 0).set4 ⟨#[]⟩).setU 0)
      clear R9
      go_wp2_with fail
      generalize ((((((wA.setCell ⟨B + 1, 0, none⟩ (.string ⟨#[]⟩)).setCell ⟨B + 1, 1, none⟩ (.int .i64 0)).setCell ⟨B + 1, 2, none⟩ (.int .i64 0)).setCell ⟨B + 1, 3, none⟩ (.int .i64 0)).setCell ⟨B + 1, 4, none⟩ (.string ⟨#[]⟩)).setCell ⟨B + 2, 0, none⟩ (.int .i64 ((0 : Nat) : Int))) = WE at R10
      clear c0 c1 c2 c3 c4 z0 z1 z2 z3 z4 u0 y0
      have c0 := (blk_cell R10.out.m_ 0).trans (rfl : _ = some (Value.string ⟨#[]⟩))
      have c1 := (blk_cell R10.out.m_ 1).trans (rfl : _ = some (Value.int .i64 0))
      have c2 := (blk_cell R10.out.m_ 2).trans (rfl : _ = some (Value.int .i64 0))
      have c3 := (blk_cell R10.out.m_ 3).trans (rfl : _ = some (Value.int .i64 0))
      have c4 := (blk_cell R10.out.m_ 4).trans (rfl : _ = some (Value.string ⟨#[]⟩))
      have u0 := (blk_cell R10.out.u_ 0).trans (rfl : _ = some (Value.int .i64 0))
      refine bodyPost_ret (v := .tuple #[.agg #[.string ⟨#[]⟩, .int .i64 0, .int .i64 0, .int .i64 0, .string ⟨#[]⟩], .int .i64 0, .int .i64 4]) (by simp [results, Tryd.results53, go_sem, c0, c1, c2, c3, c4, u0]) rfl ⟨?_, R10.out.bel⟩
      rw [HE.out]
      rfl
    | true =>
      have HE := Aside0.mk (show R = ⟨nm, mo, ti, sz, su, ue, 0⟩ by have := HRR2.out; rw [if_pos rfl] at this; exact this)
      clear HRR2
      go_upto_region 9 with fail
      clear c0 c1 c2 c3 c4
      have RD := Aside0.mk R9.out.drew
      have RB := Aside0.mk (((((RD.out.set0 nm).set1 mo).set2 ti).set3 sz).set4 su)
      have RC := Aside0.mk (RB.out.setU ue)
      clear R9
      refine start_ (n := 5) (S := fun w' => w'.cell? ⟨B + 1, 0, none⟩ = some (.string nm) ∧ w'.cell? ⟨B + 1, 1, none⟩ = some (.int .i64 mo) ∧ w'.cell? ⟨B + 1, 2, none⟩ = some (.int .i64 ti) ∧ w'.cell? ⟨B + 1, 3, none⟩ = some (.int .i64 sz) ∧ w'.cell? ⟨B + 1, 4, none⟩ = some (.string su) ∧ w'.cell? ⟨B + 2, 0, none⟩ = some (.int .i64 (ue : Int))) (ds := [3]) #[false, false, false, false, false] (by kernel_rfl) rfl rfl ⟨((blk_cell RD.out.m_ 0).trans rfl), ((blk_cell RD.out.m_ 1).trans rfl), ((blk_cell RD.out.m_ 2).trans rfl), ((blk_cell RD.out.m_ 3).trans rfl), ((blk_cell RD.out.m_ 4).trans rfl), ((blk_cell RD.out.u_ 0).trans rfl)⟩ (fun hHeld => ?_)
      generalize wA.drew = WD at RD RB RC hHeld ⊢
      refine take_ (i := 0) (N := some 34) (v := ?_) (a' := ?_) #[true, false, false, false, false] rfl rfl (by kernel_rfl) (fun _ _ _ h => h) (Or.inl ⟨by rfl, ?_⟩) hHeld ?_ ?_
      rotate_left
      · rintro w' ⟨s0, s1, s2, s3, s4, s5⟩
        go_simp
        with_reducible rfl
      rotate_left
      · simp only [Act.put, List.setIfInBounds_toArray, List.set_cons_zero, List.set_cons_succ, i64_w, i32_w]
        rfl
      refine take_ (i := 1) (N := some 35) (v := ?_) (a' := ?_) #[true, true, false, false, false] rfl rfl (by kernel_rfl) (fun _ _ _ h => h) (Or.inl ⟨by rfl, ?_⟩) hHeld ?_ ?_
      rotate_left
      · rintro w' ⟨s0, s1, s2, s3, s4, s5⟩
        go_simp
        with_reducible rfl
      rotate_left
      · simp only [Act.put, List.setIfInBounds_toArray, List.set_cons_zero, List.set_cons_succ, i64_w, i32_w]
        rfl
      refine one_ (i := 2) (N := none) #[true, true, true, false, false] rfl rfl (by kernel_rfl) (by decide) (fun K hK => ?_)
      have q0 := (blk_cell RD.out.m_ 0).trans (rfl : _ = some (Value.string nm))
      have q1 := (blk_cell RD.out.m_ 1).trans (rfl : _ = some (Value.int .i64 mo))
      have q2 := (blk_cell RD.out.m_ 2).trans (rfl : _ = some (Value.int .i64 ti))
      have q3 := (blk_cell RD.out.m_ 3).trans (rfl : _ = some (Value.int .i64 sz))
      have q4 := (blk_cell RD.out.m_ 4).trans (rfl : _ = some (Value.string su))
      have z0 := blk_frozen RD.out.m_ 0
      have z1 := blk_frozen RD.out.m_ 1
      have z2 := blk_frozen RD.out.m_ 2
      have z3 := blk_frozen RD.out.m_ 3
      have z4 := blk_frozen RD.out.m_ 4
      refine skip_ (w1 := ?_) (by rfl) rfl ?_ ?_
      rotate_left
      · go_simp
        rfl
      refine hK.out _ _ ⟨((blk_cell RB.out.m_ 0).trans rfl), ((blk_cell RB.out.m_ 1).trans rfl), ((blk_cell RB.out.m_ 2).trans rfl), ((blk_cell RB.out.m_ 3).trans rfl), ((blk_cell RB.out.m_ 4).trans rfl), ((blk_cell RB.out.u_ 0).trans rfl)⟩ (fun hHeld => ?_)
      clear hK K
      refine last_ (i := 3) (N := none) #[true, true, true, true, false] rfl rfl (by kernel_rfl) (by decide) (fun K hK => ?_)
      have q5 := (blk_cell RB.out.u_ 0).trans (rfl : _ = some (Value.int .i64 (ue : Int)))
      have z5 := blk_frozen RB.out.u_ 0
      refine skip_ (w1 := ?_) (by rfl) rfl ?_ ?_
      rotate_left
      · go_simp
        rfl
      refine hK.out _ _ ?_
      clear hK K
      refine pure_ (i := 4) (N := some 4) (v := ?_) (a' := ?_) #[true, true, true, true, true] rfl rfl (by kernel_rfl) (fun _ _ _ h => h) (Or.inl ⟨by rfl, ?_⟩) ?_ ?_
      rotate_left
      · intro w'
        go_simp
        with_reducible rfl
      rotate_left
      · simp only [Act.put, List.setIfInBounds_toArray, List.set_cons_zero, List.set_cons_succ, i64_w, i32_w]
        rfl
      refine done_ (by kernel_rfl) ?_
      go_wp2_with fail
      clear q0 q1 q2 q3 q4 q5 z0 z1 z2 z3 z4 z5 RD RB
      generalize (((((WD.setCell ⟨B + 1, 0, none⟩ (.string nm)).setCell ⟨B + 1, 1, none⟩ (.int .i64 mo)).setCell ⟨B + 1, 2, none⟩ (.int .i64 ti)).setCell ⟨B + 1, 3, none⟩ (.int .i64 sz)).setCell ⟨B + 1, 4, none⟩ (.string su)).setCell ⟨B + 2, 0, none⟩ (.int .i64 (ue : Int)) = WE at RC ⊢
      have c0 := (blk_cell RC.out.m_ 0).trans (rfl : _ = some (Value.string nm))
      have c1 := (blk_cell RC.out.m_ 1).trans (rfl : _ = some (Value.int .i64 mo))
      have c2 := (blk_cell RC.out.m_ 2).trans (rfl : _ = some (Value.int .i64 ti))
      have c3 := (blk_cell RC.out.m_ 3).trans (rfl : _ = some (Value.int .i64 sz))
      have c4 := (blk_cell RC.out.m_ 4).trans (rfl : _ = some (Value.string su))
      have u0 := (blk_cell RC.out.u_ 0).trans (rfl : _ = some (Value.int .i64 (ue : Int)))
      refine bodyPost_ret (v := .tuple #[.agg #[.string nm, .int .i64 mo, .int .i64 ti, .int .i64 sz, .string su], .int .i64 (ue : Int), .int .i64 0]) (by simp [results, Tryd.results53, go_sem, c0, c1, c2, c3, c4, u0]) rfl ⟨?_, RC.out.bel⟩
      rw [HE.out]
end Go.Proofs.YtbeibmdccjgcmaaDoor.Me
