/- meta.Read and what it asks: their contracts. -/
import Derived.Test.YtbeibmdccjgcmaaDoorLib
import Derived.Test.YtbeibmdccjgcmaaDoorMetaPlain
import Derived.Test.YtbeibmdccjgcmaaDoorWLast
import Derived.Test.YtbeibmdccjgcmaaDoorWMore
import Derived.Deep.Cut
import Derived.Deep.CutRange
import Derived.Laws.EntriesVeiled
import Derived.LoopTactic
import Derived.Deep.CutBlock
namespace Go.Proofs.YtbeibmdccjgcmaaDoor.Me
open Go.RowKit Go.Lib Go.Proofs.YtbeibmdccjgcmaaDoorW.PrintWords Go.Proofs.YtbeibmdccjgcmaaDoorW.PrintLast Go.Proofs.YtbeibmdccjgcmaaDoorW.PrintMore
set_option linter.unusedVariables false
set_option linter.unusedSimpArgs false
/-- What the library's variables hold. -/
def Tabs (w : World) : Prop := Lib.Utf8Tabs 0 1 w ∧ ∃ m, w.cell? ⟨2, 0, none⟩ = some (.int .i64 m)
theorem Tabs.below {w W : World} (h : Tabs w) (hb : Below w.heap.size w W) : Tabs W := by
  obtain ⟨h1, m, h2⟩ := h
  exact ⟨Utf8Tabs_below h1 hb, m, (hb.cell (World.block_lt_of_cell? w _ h2)).trans h2⟩
def never : List ByteArray := [⟨#[]⟩, ⟨#[46]⟩, ⟨#[46, 46]⟩]
def badS (x : ByteArray) : Bool := Lib.containsS (never.take 3) x
theorem bad_eq (x : ByteArray) : badS x = badL x.data.toList := by
  rw [Bool.eq_iff_iff]
  unfold badS badL
  rw [Lib.containsS_iff]
  have key : ∀ l : List UInt8, x = ⟨l.toArray⟩ ↔ x.data.toList = l := fun l => by
    constructor
    · intro h; rw [h]
    · intro h; apply ByteArray.ext; rw [← h]
  simp only [never, List.take, List.mem_cons, List.not_mem_nil, or_false, Bool.or_eq_true, beq_iff_eq]
  have k1 := key []
  have k2 := key [46]
  have k3 := key [46, 46]
  rw [show ((⟨#[]⟩ : ByteArray)) = ⟨([] : List UInt8).toArray⟩ from rfl, show ((⟨#[46]⟩ : ByteArray)) = ⟨([46] : List UInt8).toArray⟩ from rfl, show ((⟨#[46, 46]⟩ : ByteArray)) = ⟨([46, 46] : List UInt8).toArray⟩ from rfl, k1, k2, k3]
  exact or_assoc.symm
set_option maxHeartbeats 1000000 in
theorem bad_calls (Z : Nat) (w W : World) (h : w.heap[Z]? = some (.cells #[.string ⟨#[]⟩, .string ⟨#[46]⟩, .string ⟨#[46, 46]⟩] 78 (0, 0))) (hb : Below w.heap.size w W) (x : ByteArray) :
    Calls Tryd.prog 54 #[.string x, .pointer (some ⟨Z, 0, none⟩)] W fun e w' => e = .returned (.bool (badS x)) ∧ ∃ q, w' = W.drewN q := by
  have hZ : Z < w.heap.size := blk_lt h
  have hblk : W.heap[Z]? = some (.cells #[.string ⟨#[]⟩, .string ⟨#[46]⟩, .string ⟨#[46, 46]⟩] 78 (0, 0)) := (hb.block Z hZ).trans h
  have hc : ∀ W' : World, W'.heap[Z]? = W.heap[Z]? → ∀ j, j < never.length → W'.cell? ⟨Z, 0 + j, none⟩ = some (.string (never.getD j ByteArray.empty)) := by
    intro W' e j hj
    rw [Nat.zero_add, blk_cell (e.trans hblk)]
    match j, hj with
    | 0, _ => rfl
    | 1, _ => rfl
    | 2, _ => rfl
  have HC := Aside0.mk hc
  clear hc hblk h hb
  unfold badS
  obtain ⟨b, hbb⟩ : ∃ b, Lib.containsS (never.take 3) x = b := ⟨_, rfl⟩
  have HBB := Aside0.mk hbb
  rw [hbb]
  clear hbb
  go_enter Tryd.func54, Tryd.ntmps54
  go_wp2_with fail
  refine (Tryd.slices_Contains_string Z 0 3 3 never x _ (by decide) (by decide) (HC.out _ rfl)).mono ?_
  rintro e w' ⟨rfl, rfl⟩
  rw [HBB.out]
  go_wp2_with fail
  go_ret
  exact ⟨rfl, 0, rfl⟩
/-- The pieces that strings.Split tells. -/
def pieces (s : ByteArray) : List ByteArray := Lib.splitB ⟨#[47]⟩ 0 (Lib.countB s ⟨#[47]⟩) s
theorem pieces_len (s : ByteArray) : (pieces s).length = Lib.countB s ⟨#[47]⟩ + 1 := Lib.splitB_all _ (by decide) _ _ _ rfl
theorem pieces_steps (s : ByteArray) : (pieces s).map (·.data.toList) = stepsL s.data.toList := by
  unfold pieces
  rw [Lib.splitB_data]
  exact split_steps s.data.toList
theorem pieces_any (s : ByteArray) : (pieces s).any badS = (stepsL s.data.toList).any badL := by
  rw [← pieces_steps, List.any_map]
  congr 1
  funext x
  exact bad_eq x
theorem pieces_cell (W : World) (l : List ByteArray) : ∀ j, j < l.length → (W.alloc (.cells (l.map Value.string).toArray 9)).cell? ⟨W.heap.size, 0 + j, none⟩ = some (.string l[j]!) := by
  intro j hj
  rw [Nat.zero_add, blk_cell (blk_new W _)]
  rw [List.getElem?_toArray, List.getElem?_map, List.getElem?_eq_getElem hj, getElem!_pos l j hj]
  rfl
set_option maxHeartbeats 1000000 in
theorem name_calls (s : ByteArray) (w : World) (hT : Tabs w) :
    Calls Tryd.prog 36 #[.string s] w fun e w' => e = .returned (.bool (nameL s.data.toList)) ∧ Below w.heap.size w w' := by
  have hlen : s.data.toList.length = s.size := rfl
  have HT := Aside0.mk hT
  clear hT
  by_cases h255 : s.size ≤ 255
  · have d0 : decide ((s.size : Int) ≤ 255) = true := decide_eq_true (by omega)
    have hval : nameL s.data.toList = (validD s.data.toList && !(pieces s).any badS) := by
      unfold nameL
      rw [hlen, decide_eq_true h255, Bool.true_and, pieces_any]
    have HV := Aside0.mk hval
    clear hval hlen
    go_enter Tryd.func36, Tryd.ntmps36
    go_wp2_with fail
    obtain ⟨Z, hZ⟩ : ∃ Z, Z = w.heap.size := ⟨_, rfl⟩
    have hB0 := below_alloc (Below.refl _ w) (.cells #[.string ⟨#[]⟩, .string ⟨#[46]⟩, .string ⟨#[46, 46]⟩] 78)
    have hk0 : (w.alloc (.cells #[.string ⟨#[]⟩, .string ⟨#[46]⟩, .string ⟨#[46, 46]⟩] 78)).heap[Z]? = some (.cells #[.string ⟨#[]⟩, .string ⟨#[46]⟩, .string ⟨#[46, 46]⟩] 78 (0, 0)) := by rw [hZ]; exact blk_new w _
    rw [← hZ]
    have HB0 := Aside0.mk hB0
    have HK0 := Aside0.mk hk0
    clear hB0 hk0 hZ
    generalize w.alloc (.cells #[.string ⟨#[]⟩, .string ⟨#[46]⟩, .string ⟨#[46, 46]⟩] 78) = W0 at HB0 HK0 ⊢
    refine (Tryd.utf8_ValidString s _ (by omega) (HT.out.below HB0.out).1).mono ?_
    rintro e w1 ⟨rfl, hb⟩
    have HB1 := Aside0.mk (HB0.out.trans (hb.mono HB0.out.size))
    have HK1 := Aside0.mk ((hb.block Z (blk_lt HK0.out)).trans HK0.out)
    clear hb HB0 HK0
    obtain ⟨vd, hvd⟩ : ∃ vd, validD s.data.toList = vd := ⟨_, rfl⟩
    have HVD := Aside0.mk hvd
    rw [hvd]
    clear hvd
    cases vd with
    | false =>
      go_wp2_with fail
      rw [HV.out, HVD.out]
      go_ret
      exact ⟨rfl, HB1.out⟩
    | true =>
      go_wp2_with fail
      obtain ⟨m, hm⟩ := (HT.out.below HB1.out).2
      refine (Tryd.strings_Split s ⟨#[47]⟩ m _ (by omega) hm (by decide)).mono ?_
      clear hm
      rintro e w2 ⟨rfl, rfl⟩
      have hc := pieces_cell w1 (pieces s)
      have hl := pieces_len s
      have hle : Lib.countB s ⟨#[47]⟩ ≤ s.size := Lib.countB_le _ (by decide) _ _ (Nat.le_refl _)
      have hB2 := below_alloc HB1.out (.cells ((pieces s).map Value.string).toArray 9)
      have hk2 := (Below.heap_alloc w1 (.cells ((pieces s).map Value.string).toArray 9) Z (blk_lt HK1.out)).trans HK1.out
      rw [show Lib.splitB ⟨#[47]⟩ 0 (Lib.countB s ⟨#[47]⟩) s = pieces s from rfl]
      obtain ⟨N, hN⟩ : ∃ N, N = Lib.countB s ⟨#[47]⟩ + 1 := ⟨_, rfl⟩
      rw [← hN] at hl ⊢
      have hN2 : N ≤ 9223372036854775807 := by omega
      have HPA := Aside0.mk (show PredAt Tryd.prog 54 #[.pointer (some ⟨Z, 0, none⟩)] Value.string badS (w1.alloc (.cells ((pieces s).map Value.string).toArray 9)) from fun W x hb => bad_calls Z _ W hk2 hb x)
      obtain ⟨B, hBB⟩ : ∃ B, B = w1.heap.size := ⟨_, rfl⟩
      rw [← hBB] at hc ⊢
      have HC := Aside0.mk hc
      have HB2 := Aside0.mk hB2
      have HL := Aside0.mk hl
      clear hc hl hle hB2 hk2 hN hBB
      generalize w1.alloc (.cells ((pieces s).map Value.string).toArray 9) = W2 at HC HPA HB2 ⊢
      go_wp2_with fail
      have hcall := Tryd.slices_ContainsFunc Value.string badS 54 #[.pointer (some ⟨Z, 0, none⟩)] (enters_of Tryd.func54 (by kernel_rfl) rfl) B 0 N N (pieces s) W2 HPA.out (by rw [HL.out]; exact Nat.le_refl _) hN2 HC.out
      rw [List.take_of_length_le (by rw [HL.out]; exact Nat.le_refl _)] at hcall
      refine hcall.mono ?_
      clear hcall
      rintro e w3 ⟨rfl, q, rfl⟩
      obtain ⟨bb, hbb⟩ : ∃ bb, (pieces s).any badS = bb := ⟨_, rfl⟩
      have HBB := Aside0.mk hbb
      rw [hbb]
      clear hbb
      have HB3 := Aside0.mk (pw_below_drewN HB2.out q)
      go_wp2_with fail
      rw [HV.out, HVD.out, HBB.out]
      go_ret
      exact ⟨by rw [Bool.true_and]; rfl, HB3.out⟩
  · have d0 : decide ((s.size : Int) ≤ 255) = false := decide_eq_false (by omega)
    have hval : nameL s.data.toList = false := by
      unfold nameL
      rw [hlen, decide_eq_false h255, Bool.false_and]
    have HV := Aside0.mk hval
    clear hval hlen
    go_enter Tryd.func36, Tryd.ntmps36
    go_wp2_with fail
    rw [HV.out]
    go_ret
    exact ⟨rfl, below_alloc (Below.refl _ w) _⟩
end Go.Proofs.YtbeibmdccjgcmaaDoor.Me
namespace Go.Proofs.YtbeibmdccjgcmaaDoor.Me
open Go.RowKit Go.Lib Go.Proofs.YtbeibmdccjgcmaaDoorW.PrintWords Go.Proofs.YtbeibmdccjgcmaaDoorW.PrintLast Go.Proofs.YtbeibmdccjgcmaaDoorW.PrintMore
set_option linter.unusedVariables false
set_option linter.unusedSimpArgs false
/-- What lies in memory while a text is read. -/
structure Rd (w W : World) (B : Nat) (s : ByteArray) (nm : ByteArray) (mo ti sz : Int) (su : ByteArray) (u : Nat) (bd : Bool) : Prop where
  s_ : W.heap[B]? = some (.cells #[.string s] 9 (0, 0))
  m_ : W.heap[B + 1]? = some (.cells #[.string nm, .int .i64 mo, .int .i64 ti, .int .i64 sz, .string su] 33 (0, 0))
  u_ : W.heap[B + 2]? = some (.cells #[.int .i64 (u : Int)] 3 (0, 0))
  b_ : W.heap[B + 3]? = some (.cells #[.bool bd] 4 (0, 0))
  t_ : W.heap[B + 4]? = some (.cells #[.func (.func 64) #[] #[.pointer (some ⟨B, 0, none⟩), .pointer (some ⟨B + 2, 0, none⟩), .pointer (some ⟨B + 3, 0, none⟩)]] 91 (0, 0))
  bel : Below w.heap.size w W
  lo : w.heap.size ≤ B
section
variable {w W W' : World} {B : Nat} {s nm : ByteArray} {mo ti sz : Int} {su : ByteArray} {u : Nat} {bd : Bool}
theorem Rd.below (h : Rd w W B s nm mo ti sz su u bd) (hb : Below W.heap.size W W') : Rd w W' B s nm mo ti sz su u bd :=
  ⟨(hb.block _ (blk_lt h.s_)).trans h.s_, (hb.block _ (blk_lt h.m_)).trans h.m_, (hb.block _ (blk_lt h.u_)).trans h.u_, (hb.block _ (blk_lt h.b_)).trans h.b_, (hb.block _ (blk_lt h.t_)).trans h.t_, h.bel.trans (hb.mono h.bel.size), h.lo⟩
theorem Rd.drew (h : Rd w W B s nm mo ti sz su u bd) : Rd w W.drew B s nm mo ti sz su u bd := h.below (below_drew (Below.refl _ _))
theorem far (W : World) (b k : Nat) (v : Value) (x : Nat) (h : x ≠ b) : (W.setCell ⟨b, k, none⟩ v).heap[x]? = W.heap[x]? := Below.heap_setCell W ⟨b, k, none⟩ v x h
theorem Rd.setU (h : Rd w W B s nm mo ti sz su u bd) (u' : Nat) : Rd w (W.setCell ⟨B + 2, 0, none⟩ (.int .i64 (u' : Int))) B s nm mo ti sz su u' bd :=
  ⟨(far W _ 0 _ _ (by omega)).trans h.s_, (far W _ 0 _ _ (by omega)).trans h.m_, (blk_set h.u_ 0 _).trans rfl, (far W _ 0 _ _ (by omega)).trans h.b_, (far W _ 0 _ _ (by omega)).trans h.t_, below_set h.bel (by have := h.lo; omega), h.lo⟩
theorem Rd.setB (h : Rd w W B s nm mo ti sz su u bd) (b' : Bool) : Rd w (W.setCell ⟨B + 3, 0, none⟩ (.bool b')) B s nm mo ti sz su u b' :=
  ⟨(far W _ 0 _ _ (by omega)).trans h.s_, (far W _ 0 _ _ (by omega)).trans h.m_, (far W _ 0 _ _ (by omega)).trans h.u_, (blk_set h.b_ 0 _).trans rfl, (far W _ 0 _ _ (by omega)).trans h.t_, below_set h.bel (by have := h.lo; omega), h.lo⟩
end
/-- What is taken; where it ends; could it not be taken? -/
def takeT (s : ByteArray) (u n : Nat) : ByteArray := if u + n ≤ s.size then s.extract u (u + n) else ⟨#[]⟩
def takeU (s : ByteArray) (u n : Nat) : Nat := if u + n ≤ s.size then u + n else u
def takeB (s : ByteArray) (u n : Nat) : Bool := decide (¬ u + n ≤ s.size)
set_option maxHeartbeats 1000000 in
theorem take_calls {w W : World} {B : Nat} {s nm : ByteArray} {mo ti sz : Int} {su : ByteArray} {u : Nat} {bd : Bool} (h : Rd w W B s nm mo ti sz su u bd) (n : Nat) (hu : u ≤ s.size) (hs : s.size ≤ 1000000000000000) (hn : n ≤ 1000) :
    Calls Tryd.prog 64 #[.int .i64 (n : Int), .pointer (some ⟨B, 0, none⟩), .pointer (some ⟨B + 2, 0, none⟩), .pointer (some ⟨B + 3, 0, none⟩)] W fun e w' => e = .returned (.string (takeT s u n)) ∧ Rd w w' B s nm mo ti sz su (takeU s u n) (bd || takeB s u n) := by
  have c0 := (blk_cell h.s_ 0).trans (rfl : _ = some (Value.string s))
  have c2 := (blk_cell h.u_ 0).trans (rfl : _ = some (Value.int .i64 (u : Int)))
  have c3 := (blk_cell h.b_ 0).trans (rfl : _ = some (Value.bool bd))
  have z2 := blk_frozen h.u_ 0
  have z3 := blk_frozen h.b_ 0
  have H := Aside0.mk h
  by_cases hf : u + n ≤ s.size
  · have hT : takeT s u n = s.extract u (u + n) := if_pos hf
    have hU : takeU s u n = u + n := if_pos hf
    have hB : takeB s u n = false := decide_eq_false (fun k => k hf)
    have HH := Aside0.mk (And.intro hT (And.intro hU hB))
    obtain ⟨v, hv⟩ : ∃ v, v = u + n := ⟨_, rfl⟩
    have hvI : (u : Int) + (n : Int) = (v : Int) := by omega
    have hvs : v ≤ s.size := by omega
    have hsub : (v : Int) - (n : Int) = (u : Int) := by omega
    have d0 : decide ((s.size : Int) - (u : Int) < (n : Int)) = false := decide_eq_false (by omega)
    have h2 := Aside0.mk (h.setU v)
    have huv : u ≤ v := by omega
    clear h hT hU hB hf
    have HVV := Aside0.mk hv
    clear hv
    go_enter Tryd.func64, Tryd.ntmps64
    go_wp2_with fail
    go_ret
    obtain ⟨hT, hU, hB⟩ := HH.out
    rw [hT, hU, hB, Bool.or_false, ← HVV.out]
    exact ⟨rfl, h2.out⟩
  · have hT : takeT s u n = ⟨#[]⟩ := if_neg hf
    have hU : takeU s u n = u := if_neg hf
    have hB : takeB s u n = true := decide_eq_true hf
    have HH := Aside0.mk (And.intro hT (And.intro hU hB))
    have d0 : decide ((s.size : Int) - (u : Int) < (n : Int)) = true := decide_eq_true (by omega)
    have h2 := Aside0.mk (h.setB true)
    clear h hT hU hB hf
    go_enter Tryd.func64, Tryd.ntmps64
    go_wp2_with fail
    go_ret
    obtain ⟨hT, hU, hB⟩ := HH.out
    rw [hT, hU, hB, Bool.or_true]
    exact ⟨rfl, h2.out⟩
end Go.Proofs.YtbeibmdccjgcmaaDoor.Me
namespace Go.Proofs.YtbeibmdccjgcmaaDoor.Me
open Go.RowKit Go.Lib Go.Proofs.YtbeibmdccjgcmaaDoorW.PrintWords Go.Proofs.YtbeibmdccjgcmaaDoorW.PrintLast Go.Proofs.YtbeibmdccjgcmaaDoorW.PrintMore
set_option linter.unusedVariables false
set_option linter.unusedSimpArgs false
section
variable {P : Program} {ops : Array Oper} {Q : Exit → Act → World → Prop}
end
/-- What is said of a file, but its name, may be. -/
def restB (mo ti sz : Int) (su : ByteArray) : Bool := decide (0 ≤ mo ∧ mo ≤ 65535 ∧ 0 ≤ ti ∧ ti ≤ 1099511627776 ∧ 0 ≤ sz ∧ sz ≤ 32768 ∧ su.size = 32)
set_option maxHeartbeats 1000000 in
theorem rest_calls (nm : ByteArray) (mo ti sz : Int) (su : ByteArray) (w : World) :
    Calls Tryd.prog 37 #[.agg #[.string nm, .int .i64 mo, .int .i64 ti, .int .i64 sz, .string su]] w fun e w' => e = .returned (.bool (restB mo ti sz su)) ∧ Below w.heap.size w w' := by
  by_cases h0 : (0 : Int) ≤ mo
  rotate_left
  · have d0 : decide ((0 : Int) ≤ mo) = false := decide_eq_false h0
    have HV := Aside0.mk (show restB mo ti sz su = false from decide_eq_false fun h => h0 h.1)
    go_enter Tryd.func37, Tryd.ntmps37
    go_wp2_with fail
    go_ret
    rw [HV.out]
    exact ⟨rfl, below_alloc (Below.refl _ w) _⟩
  by_cases h1 : mo ≤ 65535
  rotate_left
  · have d1 : decide (mo ≤ 65535) = false := decide_eq_false h1
    have d0 : decide ((0 : Int) ≤ mo) = true := decide_eq_true h0
    have HV := Aside0.mk (show restB mo ti sz su = false from decide_eq_false fun h => h1 h.2.1)
    go_enter Tryd.func37, Tryd.ntmps37
    go_wp2_with fail
    go_ret
    rw [HV.out]
    exact ⟨rfl, below_alloc (Below.refl _ w) _⟩
  by_cases h2 : (0 : Int) ≤ ti
  rotate_left
  · have d2 : decide ((0 : Int) ≤ ti) = false := decide_eq_false h2
    have d0 : decide ((0 : Int) ≤ mo) = true := decide_eq_true h0
    have d1 : decide (mo ≤ 65535) = true := decide_eq_true h1
    have HV := Aside0.mk (show restB mo ti sz su = false from decide_eq_false fun h => h2 h.2.2.1)
    go_enter Tryd.func37, Tryd.ntmps37
    go_wp2_with fail
    go_ret
    rw [HV.out]
    exact ⟨rfl, below_alloc (Below.refl _ w) _⟩
  by_cases h3 : ti ≤ 1099511627776
  rotate_left
  · have d3 : decide (ti ≤ 1099511627776) = false := decide_eq_false h3
    have d0 : decide ((0 : Int) ≤ mo) = true := decide_eq_true h0
    have d1 : decide (mo ≤ 65535) = true := decide_eq_true h1
    have d2 : decide ((0 : Int) ≤ ti) = true := decide_eq_true h2
    have HV := Aside0.mk (show restB mo ti sz su = false from decide_eq_false fun h => h3 h.2.2.2.1)
    go_enter Tryd.func37, Tryd.ntmps37
    go_wp2_with fail
    go_ret
    rw [HV.out]
    exact ⟨rfl, below_alloc (Below.refl _ w) _⟩
  by_cases h4 : (0 : Int) ≤ sz
  rotate_left
  · have d4 : decide ((0 : Int) ≤ sz) = false := decide_eq_false h4
    have d0 : decide ((0 : Int) ≤ mo) = true := decide_eq_true h0
    have d1 : decide (mo ≤ 65535) = true := decide_eq_true h1
    have d2 : decide ((0 : Int) ≤ ti) = true := decide_eq_true h2
    have d3 : decide (ti ≤ 1099511627776) = true := decide_eq_true h3
    have HV := Aside0.mk (show restB mo ti sz su = false from decide_eq_false fun h => h4 h.2.2.2.2.1)
    go_enter Tryd.func37, Tryd.ntmps37
    go_wp2_with fail
    go_ret
    rw [HV.out]
    exact ⟨rfl, below_alloc (Below.refl _ w) _⟩
  by_cases h5 : sz ≤ 32768
  rotate_left
  · have d5 : decide (sz ≤ 32768) = false := decide_eq_false h5
    have d0 : decide ((0 : Int) ≤ mo) = true := decide_eq_true h0
    have d1 : decide (mo ≤ 65535) = true := decide_eq_true h1
    have d2 : decide ((0 : Int) ≤ ti) = true := decide_eq_true h2
    have d3 : decide (ti ≤ 1099511627776) = true := decide_eq_true h3
    have d4 : decide ((0 : Int) ≤ sz) = true := decide_eq_true h4
    have HV := Aside0.mk (show restB mo ti sz su = false from decide_eq_false fun h => h5 h.2.2.2.2.2.1)
    go_enter Tryd.func37, Tryd.ntmps37
    go_wp2_with fail
    go_ret
    rw [HV.out]
    exact ⟨rfl, below_alloc (Below.refl _ w) _⟩
  by_cases h6 : su.size = 32
  rotate_left
  · have d6 : ((su.size : Int) == 32) = false := beq_eq_false_iff_ne.mpr (by omega)
    have d0 : decide ((0 : Int) ≤ mo) = true := decide_eq_true h0
    have d1 : decide (mo ≤ 65535) = true := decide_eq_true h1
    have d2 : decide ((0 : Int) ≤ ti) = true := decide_eq_true h2
    have d3 : decide (ti ≤ 1099511627776) = true := decide_eq_true h3
    have d4 : decide ((0 : Int) ≤ sz) = true := decide_eq_true h4
    have d5 : decide (sz ≤ 32768) = true := decide_eq_true h5
    have HV := Aside0.mk (show restB mo ti sz su = false from decide_eq_false fun h => h6 h.2.2.2.2.2.2)
    clear h6
    go_enter Tryd.func37, Tryd.ntmps37
    go_wp2_with fail
    go_ret
    rw [HV.out]
    exact ⟨rfl, below_alloc (Below.refl _ w) _⟩
  have d6 : ((su.size : Int) == 32) = true := beq_iff_eq.mpr (by omega)
  have d0 : decide ((0 : Int) ≤ mo) = true := decide_eq_true h0
  have d1 : decide (mo ≤ 65535) = true := decide_eq_true h1
  have d2 : decide ((0 : Int) ≤ ti) = true := decide_eq_true h2
  have d3 : decide (ti ≤ 1099511627776) = true := decide_eq_true h3
  have d4 : decide ((0 : Int) ≤ sz) = true := decide_eq_true h4
  have d5 : decide (sz ≤ 32768) = true := decide_eq_true h5
  have HV := Aside0.mk (show restB mo ti sz su = true from decide_eq_true ⟨h0, h1, h2, h3, h4, h5, h6⟩)
  clear h6
  go_enter Tryd.func37, Tryd.ntmps37
  go_wp2_with fail
  go_ret
  rw [HV.out]
  exact ⟨rfl, below_alloc (Below.refl _ w) _⟩
/-- What is said of a file may be. -/
def mayB (nm : ByteArray) (mo ti sz : Int) (su : ByteArray) : Bool := nameL nm.data.toList && restB mo ti sz su
set_option maxHeartbeats 1000000 in
theorem may_calls (nm : ByteArray) (mo ti sz : Int) (su : ByteArray) (w : World) (hT : Tabs w) :
    Calls Tryd.prog 20 #[.agg #[.string nm, .int .i64 mo, .int .i64 ti, .int .i64 sz, .string su]] w fun e w' => e = .returned (.bool (mayB nm mo ti sz su)) ∧ Below w.heap.size w w' := by
  have HT := Aside0.mk hT
  clear hT
  unfold mayB
  have HN := Aside0.mk (fun W (h : Tabs W) => name_calls nm W h)
  have HR := Aside0.mk (fun W => rest_calls nm mo ti sz su W)
  generalize nameL nm.data.toList = b1 at HN ⊢
  generalize restB mo ti sz su = b2 at HR ⊢
  go_enter Tryd.func20, Tryd.ntmps20
  go_wp2_with fail
  have hB0 := below_alloc (Below.refl _ w) (.cells #[.string nm, .int .i64 mo, .int .i64 ti, .int .i64 sz, .string su] 33)
  have hk0 := blk_new w (.cells #[.string nm, .int .i64 mo, .int .i64 ti, .int .i64 sz, .string su] 33)
  generalize w.alloc (.cells #[.string nm, .int .i64 mo, .int .i64 ti, .int .i64 sz, .string su] 33) = W0 at hB0 hk0 ⊢
  obtain ⟨Z, hZ⟩ : ∃ Z, Z = w.heap.size := ⟨_, rfl⟩
  rw [← hZ] at hk0 ⊢
  clear hZ
  have HB0 := Aside0.mk hB0
  have HK0 := Aside0.mk hk0
  clear hB0 hk0
  refine (HN.out _ (HT.out.below HB0.out)).mono ?_
  rintro e w1 ⟨rfl, hb⟩
  have HB1 := Aside0.mk (HB0.out.trans (hb.mono HB0.out.size))
  have hk1 : w1.heap[Z]? = _ := (hb.block Z (blk_lt HK0.out)).trans HK0.out
  have c0 := (blk_cell hk1 0).trans (rfl : _ = some (Value.string nm))
  have c1 := (blk_cell hk1 1).trans (rfl : _ = some (Value.int .i64 mo))
  have c2 := (blk_cell hk1 2).trans (rfl : _ = some (Value.int .i64 ti))
  have c3 := (blk_cell hk1 3).trans (rfl : _ = some (Value.int .i64 sz))
  have c4 := (blk_cell hk1 4).trans (rfl : _ = some (Value.string su))
  clear hb hk1 HK0 HB0 HN
  cases b1 with
  | true =>
    go_wp2_with fail
    refine (HR.out _).mono ?_
    rintro e w2 ⟨rfl, hb⟩
    have HB2 := Aside0.mk (HB1.out.trans (hb.mono HB1.out.size))
    clear hb c0 c1 c2 c3 c4
    go_wp2_with fail
    go_ret
    exact ⟨rfl, HB2.out⟩
  | false =>
    go_wp2_with fail
    go_ret
    exact ⟨rfl, HB1.out⟩
/-- What Read tells: what is said, how many bytes, the error. -/
structure Ans where
  nm : ByteArray
  mo : Int
  ti : Int
  sz : Int
  su : ByteArray
  used : Nat
  e : Int
theorem Rd.made (w : World) (s : ByteArray) (o1 o2 o3 o4 o5 : Obj) (h1 : o1 = .cells #[.string s] 9 (0, 0)) (h2 : o2 = .cells #[.string ⟨#[]⟩, .int .i64 0, .int .i64 0, .int .i64 0, .string ⟨#[]⟩] 33 (0, 0)) (h3 : o3 = .cells #[.int .i64 0] 3 (0, 0)) (h4 : o4 = .cells #[.bool false] 4 (0, 0))
    (h5 : o5 = .cells #[.func (.func 64) #[] #[.pointer (some ⟨w.heap.size, 0, none⟩), .pointer (some ⟨w.heap.size + 2, 0, none⟩), .pointer (some ⟨w.heap.size + 3, 0, none⟩)]] 91 (0, 0)) :
    Rd w (((((w.alloc o1).alloc o2).alloc o3).alloc o4).alloc o5) w.heap.size s ⟨#[]⟩ 0 0 0 ⟨#[]⟩ 0 false := by
  have z1 : (w.alloc o1).heap.size = w.heap.size + 1 := by simp
  have z2 : ((w.alloc o1).alloc o2).heap.size = w.heap.size + 2 := by simp
  have z3 : (((w.alloc o1).alloc o2).alloc o3).heap.size = w.heap.size + 3 := by simp
  have z4 : ((((w.alloc o1).alloc o2).alloc o3).alloc o4).heap.size = w.heap.size + 4 := by simp
  have b1 := blk_new w o1
  have b2 := blk_new (w.alloc o1) o2
  have b3 := blk_new ((w.alloc o1).alloc o2) o3
  have b4 := blk_new (((w.alloc o1).alloc o2).alloc o3) o4
  have b5 := blk_new ((((w.alloc o1).alloc o2).alloc o3).alloc o4) o5
  rw [z1] at b2
  rw [z2] at b3
  rw [z3] at b4
  rw [z4] at b5
  have a2 : ∀ k, k < w.heap.size + 1 → ((w.alloc o1).alloc o2).heap[k]? = (w.alloc o1).heap[k]? := fun k hk => Below.heap_alloc _ _ _ (by rw [z1]; exact hk)
  have a3 : ∀ k, k < w.heap.size + 2 → (((w.alloc o1).alloc o2).alloc o3).heap[k]? = ((w.alloc o1).alloc o2).heap[k]? := fun k hk => Below.heap_alloc _ _ _ (by rw [z2]; exact hk)
  have a4 : ∀ k, k < w.heap.size + 3 → ((((w.alloc o1).alloc o2).alloc o3).alloc o4).heap[k]? = (((w.alloc o1).alloc o2).alloc o3).heap[k]? := fun k hk => Below.heap_alloc _ _ _ (by rw [z3]; exact hk)
  have a5 : ∀ k, k < w.heap.size + 4 → (((((w.alloc o1).alloc o2).alloc o3).alloc o4).alloc o5).heap[k]? = ((((w.alloc o1).alloc o2).alloc o3).alloc o4).heap[k]? := fun k hk => Below.heap_alloc _ _ _ (by rw [z4]; exact hk)
  refine ⟨?_, ?_, ?_, ?_, ?_, below_alloc (below_alloc (below_alloc (below_alloc (below_alloc (Below.refl _ w) _) _) _) _) _, Nat.le_refl _⟩
  · rw [a5 _ (by omega), a4 _ (by omega), a3 _ (by omega), a2 _ (by omega), b1, h1]
  · rw [a5 _ (by omega), a4 _ (by omega), a3 _ (by omega), b2, h2]
  · rw [a5 _ (by omega), a4 _ (by omega), b3, h3]; rfl
  · rw [a5 _ (by omega), b4, h4]
  · rw [b5, h5]
end Go.Proofs.YtbeibmdccjgcmaaDoor.Me
