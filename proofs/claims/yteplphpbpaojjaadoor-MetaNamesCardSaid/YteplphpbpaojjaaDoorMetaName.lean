/- meta.Name: its contract. -/
import Derived.Test.YteplphpbpaojjaaDoorLib
import Derived.Test.YteplphpbpaojjaaDoorMetaPlain
import Derived.Test.YteplphpbpaojjaaDoorWLast
import Derived.Test.YteplphpbpaojjaaDoorWMore
import Derived.Deep.Cut
import Derived.Deep.CutRange
import Derived.Laws.EntriesVeiled
namespace Go.Proofs.YteplphpbpaojjaaDoor.Me
open Go.RowKit Go.Lib Go.Proofs.YteplphpbpaojjaaDoorW.PrintWords Go.Proofs.YteplphpbpaojjaaDoorW.PrintLast Go.Proofs.YteplphpbpaojjaaDoorW.PrintMore
set_option linter.unusedVariables false
set_option linter.unusedSimpArgs false
/-- What the library's variables hold. -/
def Tabs (w : World) : Prop := Lib.Utf8Tabs 0 1 w ∧ ∃ m, w.cell? ⟨2, 0, none⟩ = some (.int .i64 m)
theorem Tabs.below {w W : World} (h : Tabs w) (hb : Below w.heap.size w W) : Tabs W := by
  obtain ⟨h1, m, h2⟩ := h
  exact ⟨Utf8Tabs_below h1 hb, m, (hb.cell (World.block_lt_of_cell? w _ h2)).trans h2⟩
def never : List ByteArray := [⟨#[]⟩, ⟨#[46]⟩, ⟨#[46, 46]⟩]
def badS (x : ByteArray) : Bool := Lib.containsS (never.take 3) x
theorem bad_eq (x : ByteArray) : badS x = badL x.data.toList := by
  rw [Bool.eq_iff_iff]
  unfold badS badL
  rw [Lib.containsS_iff]
  have key : ∀ l : List UInt8, x = ⟨l.toArray⟩ ↔ x.data.toList = l := fun l => by
    constructor
    · intro h; rw [h]
    · intro h; apply ByteArray.ext; rw [← h]
  simp only [never, List.take, List.mem_cons, List.not_mem_nil, or_false, Bool.or_eq_true, beq_iff_eq]
  have k1 := key []
  have k2 := key [46]
  have k3 := key [46, 46]
  rw [show ((⟨#[]⟩ : ByteArray)) = ⟨([] : List UInt8).toArray⟩ from rfl, show ((⟨#[46]⟩ : ByteArray)) = ⟨([46] : List UInt8).toArray⟩ from rfl, show ((⟨#[46, 46]⟩ : ByteArray)) = ⟨([46, 46] : List UInt8).toArray⟩ from rfl, k1, k2, k3]
  exact or_assoc.symm
set_option maxHeartbeats 1000000 in
theorem bad_calls (Z : Nat) (w W : World) (h : w.heap[Z]? = some (.cells #[.string ⟨#[]⟩, .string ⟨#[46]⟩, .string ⟨#[46, 46]⟩] 45 (0, 0))) (hb : Below w.heap.size w W) (x : ByteArray) :
    Calls Tryd.prog 24 #[.string x, .pointer (some ⟨Z, 0, none⟩)] W fun e w' => e = .returned (.bool (badS x)) ∧ ∃ q, w' = W.drewN q := by
  have hZ : Z < w.heap.size := blk_lt h
  have hblk : W.heap[Z]? = some (.cells #[.string ⟨#[]⟩, .string ⟨#[46]⟩, .string ⟨#[46, 46]⟩] 45 (0, 0)) := (hb.block Z hZ).trans h
  have hc : ∀ W' : World, W'.heap[Z]? = W.heap[Z]? → ∀ j, j < never.length → W'.cell? ⟨Z, 0 + j, none⟩ = some (.string (never.getD j ByteArray.empty)) := by
    intro W' e j hj
    rw [Nat.zero_add, blk_cell (e.trans hblk)]
    match j, hj with
    | 0, _ => rfl
    | 1, _ => rfl
    | 2, _ => rfl
  have HC := Aside0.mk hc
  clear hc hblk h hb
  unfold badS
  obtain ⟨b, hbb⟩ : ∃ b, Lib.containsS (never.take 3) x = b := ⟨_, rfl⟩
  have HBB := Aside0.mk hbb
  rw [hbb]
  clear hbb
  go_enter Tryd.func24, Tryd.ntmps24
  go_wp2_with fail
  refine (Tryd.slices_Contains_string Z 0 3 3 never x _ (by decide) (by decide) (HC.out _ rfl)).mono ?_
  rintro e w' ⟨rfl, rfl⟩
  rw [HBB.out]
  go_wp2_with fail
  go_ret
  exact ⟨rfl, 0, rfl⟩
/-- The pieces that strings.Split tells. -/
def pieces (s : ByteArray) : List ByteArray := Lib.splitB ⟨#[47]⟩ 0 (Lib.countB s ⟨#[47]⟩) s
theorem pieces_len (s : ByteArray) : (pieces s).length = Lib.countB s ⟨#[47]⟩ + 1 := Lib.splitB_all _ (by decide) _ _ _ rfl
theorem pieces_steps (s : ByteArray) : (pieces s).map (·.data.toList) = stepsL s.data.toList := by
  unfold pieces
  rw [Lib.splitB_data]
  exact split_steps s.data.toList
theorem pieces_any (s : ByteArray) : (pieces s).any badS = (stepsL s.data.toList).any badL := by
  rw [← pieces_steps, List.any_map]
  congr 1
  funext x
  exact bad_eq x
theorem pieces_cell (W : World) (l : List ByteArray) : ∀ j, j < l.length → (W.alloc (.cells (l.map Value.string).toArray 9)).cell? ⟨W.heap.size, 0 + j, none⟩ = some (.string l[j]!) := by
  intro j hj
  rw [Nat.zero_add, blk_cell (blk_new W _)]
  rw [List.getElem?_toArray, List.getElem?_map, List.getElem?_eq_getElem hj, getElem!_pos l j hj]
  rfl
set_option maxHeartbeats 1000000 in
theorem name_calls (s : ByteArray) (w : World) (hT : Tabs w) :
    Calls Tryd.prog 11 #[.string s] w fun e w' => e = .returned (.bool (nameL s.data.toList)) ∧ Below w.heap.size w w' := by
  have hlen : s.data.toList.length = s.size := rfl
  have HT := Aside0.mk hT
  clear hT
  by_cases h255 : s.size ≤ 255
  · have d0 : decide ((s.size : Int) ≤ 255) = true := decide_eq_true (by omega)
    have hval : nameL s.data.toList = (validD s.data.toList && !(pieces s).any badS) := by
      unfold nameL
      rw [hlen, decide_eq_true h255, Bool.true_and, pieces_any]
    have HV := Aside0.mk hval
    clear hval hlen
    go_enter Tryd.func11, Tryd.ntmps11
    go_wp2_with fail
    obtain ⟨Z, hZ⟩ : ∃ Z, Z = w.heap.size := ⟨_, rfl⟩
    have hB0 := below_alloc (Below.refl _ w) (.cells #[.string ⟨#[]⟩, .string ⟨#[46]⟩, .string ⟨#[46, 46]⟩] 45)
    have hk0 : (w.alloc (.cells #[.string ⟨#[]⟩, .string ⟨#[46]⟩, .string ⟨#[46, 46]⟩] 45)).heap[Z]? = some (.cells #[.string ⟨#[]⟩, .string ⟨#[46]⟩, .string ⟨#[46, 46]⟩] 45 (0, 0)) := by rw [hZ]; exact blk_new w _
    rw [← hZ]
    have HB0 := Aside0.mk hB0
    have HK0 := Aside0.mk hk0
    clear hB0 hk0 hZ
    generalize w.alloc (.cells #[.string ⟨#[]⟩, .string ⟨#[46]⟩, .string ⟨#[46, 46]⟩] 45) = W0 at HB0 HK0 ⊢
    refine (Tryd.utf8_ValidString s _ (by omega) (HT.out.below HB0.out).1).mono ?_
    rintro e w1 ⟨rfl, hb⟩
    have HB1 := Aside0.mk (HB0.out.trans (hb.mono HB0.out.size))
    have HK1 := Aside0.mk ((hb.block Z (blk_lt HK0.out)).trans HK0.out)
    clear hb HB0 HK0
    obtain ⟨vd, hvd⟩ : ∃ vd, validD s.data.toList = vd := ⟨_, rfl⟩
    have HVD := Aside0.mk hvd
    rw [hvd]
    clear hvd
    cases vd with
    | false =>
      go_wp2_with fail
      rw [HV.out, HVD.out]
      go_ret
      exact ⟨rfl, HB1.out⟩
    | true =>
      go_wp2_with fail
      obtain ⟨m, hm⟩ := (HT.out.below HB1.out).2
      refine (Tryd.strings_Split s ⟨#[47]⟩ m _ (by omega) hm (by decide)).mono ?_
      clear hm
      rintro e w2 ⟨rfl, rfl⟩
      have hc := pieces_cell w1 (pieces s)
      have hl := pieces_len s
      have hle : Lib.countB s ⟨#[47]⟩ ≤ s.size := Lib.countB_le _ (by decide) _ _ (Nat.le_refl _)
      have hB2 := below_alloc HB1.out (.cells ((pieces s).map Value.string).toArray 9)
      have hk2 := (Below.heap_alloc w1 (.cells ((pieces s).map Value.string).toArray 9) Z (blk_lt HK1.out)).trans HK1.out
      rw [show Lib.splitB ⟨#[47]⟩ 0 (Lib.countB s ⟨#[47]⟩) s = pieces s from rfl]
      obtain ⟨N, hN⟩ : ∃ N, N = Lib.countB s ⟨#[47]⟩ + 1 := ⟨_, rfl⟩
      rw [← hN] at hl ⊢
      have hN2 : N ≤ 9223372036854775807 := by omega
      have HPA := Aside0.mk (show PredAt Tryd.prog 24 #[.pointer (some ⟨Z, 0, none⟩)] Value.string badS (w1.alloc (.cells ((pieces s).map Value.string).toArray 9)) from fun W x hb => bad_calls Z _ W hk2 hb x)
      obtain ⟨B, hBB⟩ : ∃ B, B = w1.heap.size := ⟨_, rfl⟩
      rw [← hBB] at hc ⊢
      have HC := Aside0.mk hc
      have HB2 := Aside0.mk hB2
      have HL := Aside0.mk hl
      clear hc hl hle hB2 hk2 hN hBB
      generalize w1.alloc (.cells ((pieces s).map Value.string).toArray 9) = W2 at HC HPA HB2 ⊢
      go_wp2_with fail
      have hcall := Tryd.slices_ContainsFunc Value.string badS 24 #[.pointer (some ⟨Z, 0, none⟩)] (enters_of Tryd.func24 (by kernel_rfl) rfl) B 0 N N (pieces s) W2 HPA.out (by rw [HL.out]; exact Nat.le_refl _) hN2 HC.out
      rw [List.take_of_length_le (by rw [HL.out]; exact Nat.le_refl _)] at hcall
      refine hcall.mono ?_
      clear hcall
      rintro e w3 ⟨rfl, q, rfl⟩
      obtain ⟨bb, hbb⟩ : ∃ bb, (pieces s).any badS = bb := ⟨_, rfl⟩
      have HBB := Aside0.mk hbb
      rw [hbb]
      clear hbb
      have HB3 := Aside0.mk (pw_below_drewN HB2.out q)
      go_wp2_with fail
      rw [HV.out, HVD.out, HBB.out]
      go_ret
      exact ⟨by rw [Bool.true_and]; rfl, HB3.out⟩
  · have d0 : decide ((s.size : Int) ≤ 255) = false := decide_eq_false (by omega)
    have hval : nameL s.data.toList = false := by
      unfold nameL
      rw [hlen, decide_eq_false h255, Bool.false_and]
    have HV := Aside0.mk hval
    clear hval hlen
    go_enter Tryd.func11, Tryd.ntmps11
    go_wp2_with fail
    rw [HV.out]
    go_ret
    exact ⟨rfl, below_alloc (Below.refl _ w) _⟩
end Go.Proofs.YteplphpbpaojjaaDoor.Me
