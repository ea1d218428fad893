/- SectorApart, in plain words: what Cut tells of a volume's bytes with others behind, and with other bytes in the place of one sector. -/
import Derived.Test.YtpgijmnlkfhheaaPureSecLays
namespace Go.Proofs.Ytpgijmnlkfhheaa.Tw
open Go.RowKit Go.Proofs.YtpgijmnlkfhheaaW.PrintWords Go.Proofs.YtpgijmnlkfhheaaW.PrintLast Go.Proofs.YtpgijmnlkfhheaaW.PrintMore Go.Proofs.Ytpgijmnlkfhheaa.PSecP Go.Proofs.Ytpgijmnlkfhheaa.Pb
set_option linter.unusedVariables false
set_option linter.unusedSimpArgs false
theorem ext_sub {a b : ByteArray} {p q : Nat} (h : a.extract p q = b.extract p q) (ha : q ≤ a.size) (hb : q ≤ b.size) (i j : Nat) (hi : p ≤ i) (hj : j ≤ q) : a.extract i j = b.extract i j := by
  apply bytesOf_inj
  have e := congrArg bytesOf h
  rw [bytesOf_extract, bytesOf_extract] at e ⊢
  apply List.ext_getElem?
  intro k
  have e2 := congrArg (fun l : List Int => l[i - p + k]?) e
  simp only [List.getElem?_drop, List.getElem?_take] at e2 ⊢
  rw [show p + (i - p + k) = i + k by omega] at e2
  by_cases hk : i + k < j
  · rw [if_pos hk, if_pos hk]
    rw [if_pos (by omega), if_pos (by omega)] at e2
    exact e2
  · rw [if_neg hk, if_neg hk]
theorem okA_same {a b id : ByteArray} {n : Int} {z i : Nat} (h : a.extract (i * (z + 8)) ((i + 1) * (z + 8)) = b.extract (i * (z + 8)) ((i + 1) * (z + 8))) (ha : (i + 1) * (z + 8) ≤ a.size) (hb : (i + 1) * (z + 8) ≤ b.size) : okA a id n z i = okA b id n z i ∧ rowA a id n z i = rowA b id n z i := by
  have e1 : (i + 1) * (z + 8) = i * (z + 8) + z + 8 := by rw [Nat.succ_mul]; omega
  have x1 := ext_sub h ha hb (i * (z + 8)) (i * (z + 8) + z) (Nat.le_refl _) (by omega)
  have x2 := ext_sub h ha hb (i * (z + 8) + z) ((i + 1) * (z + 8)) (by omega) (Nat.le_refl _)
  have o : okA a id n z i = okA b id n z i := by
    unfold okA
    rw [x1, x2, decide_eq_true ha, decide_eq_true hb]
  refine ⟨o, ?_⟩
  unfold rowA
  rw [o, x1]
theorem ext_two (r t : ByteArray) (z : Nat) (hz : r.size = z) (ht : t.size = 8) : (r ++ t).extract 0 z = r ∧ (r ++ t).extract z (z + 8) = t := by
  subst hz
  refine ⟨ext_app_left r t, ?_⟩
  have h := ext_app_right r t
  rwa [ByteArray.size_append, ht] at h
theorem joined_at (id : ByteArray) (n : Int) (z : Nat) (rows : List ByteArray) (hs : sized (z : Int) rows = true) (more : ByteArray) (i : Nat) (hi : i < rows.length) :
    okA (joinB id n 0 rows ++ more) id n z i = true ∧ rowA (joinB id n 0 rows ++ more) id n z i = rows[i] := by
  have hsz := join_size id n z rows 0 hs
  have hle : (i + 1) * (z + 8) ≤ (joinB id n 0 rows).size := by rw [hsz]; exact Nat.mul_le_mul_right _ hi
  have hle2 : (i + 1) * (z + 8) ≤ (joinB id n 0 rows ++ more).size := by rw [ByteArray.size_append]; omega
  have hat := join_at id n z rows 0 i hs hi
  rw [Nat.zero_add] at hat
  rw [← ext_app_near (joinB id n 0 rows) more _ _ hle] at hat
  have e1 : (i + 1) * (z + 8) = i * (z + 8) + z + 8 := by rw [Nat.succ_mul]; omega
  have hri : rows[i].size = z := by have := sized_at hs hi; omega
  obtain ⟨t1, t2⟩ := ext_two rows[i] (tagOf id n (i : Int) rows[i]) z hri (tagOf_size _ _ _ _)
  generalize joinB id n 0 rows ++ more = a at hat hle2
  have x1 : a.extract (i * (z + 8)) (i * (z + 8) + z) = rows[i] := by
    have h := congrArg (fun b : ByteArray => b.extract 0 z) hat
    rw [t1, ByteArray.extract_extract] at h
    rw [← h]
    congr 1
    omega
  have x2 : a.extract (i * (z + 8) + z) ((i + 1) * (z + 8)) = tagOf id n (i : Int) rows[i] := by
    have h := congrArg (fun b : ByteArray => b.extract z (z + 8)) hat
    rw [t2, ByteArray.extract_extract] at h
    rw [← h]
    congr 1
    omega
  have o : okA a id n z i = true := by
    unfold okA
    rw [x1, x2, decide_eq_true hle2, decide_eq_true rfl]
    rfl
  refine ⟨o, ?_⟩
  unfold rowA
  rw [if_pos o, x1]
/-- What Cut tells of a volume's bytes, whatever stands behind. -/
theorem cut_joined (id : ByteArray) (n : Int) (z : Nat) (rows : List ByteArray) (hM : mayB id n (z : Int) (rows.length : Int) = true) (hs : sized (z : Int) rows = true) (more : ByteArray) : cutT (joinB id n 0 rows ++ more) id n (z : Int) (rows.length : Int) = (rows, [], 0) := by
  unfold cutT
  rw [if_pos hM, Int.toNat_natCast, Int.toNat_natCast]
  have h := joined_at id n z rows hs more
  generalize joinB id n 0 rows ++ more = a at h ⊢
  have e1 : (List.range' 0 rows.length).map (rowA a id n z) = rows := by
    apply List.ext_getElem
    · simp
    · intro i h1 h2
      rw [List.getElem_map, List.getElem_range', Nat.zero_add, Nat.one_mul]
      exact (h i h2).2
  have e2 : tornA a id n z (List.range' 0 rows.length) = [] := by
    unfold tornA
    rw [List.filter_eq_nil_iff.2, List.map_nil]
    intro i hi
    obtain ⟨j, hj, rfl⟩ := List.mem_range'.1 hi
    rw [Nat.zero_add, Nat.one_mul, (h j hj).1]
    decide
  rw [e1, e2]
/-- What Cut tells of any bytes: its rows, and which are torn. -/
theorem cut_any (a id : ByteArray) (n : Int) (z R : Nat) (hM : mayB id n (z : Int) (R : Int) = true) : cutT a id n (z : Int) (R : Int) = ((List.range' 0 R).map (rowA a id n z), tornA a id n z (List.range' 0 R), 0) := by
  unfold cutT
  rw [if_pos hM, Int.toNat_natCast, Int.toNat_natCast]
theorem torn_iff (a id : ByteArray) (n : Int) (z R i : Nat) (hi : i < R) : (tornA a id n z (List.range' 0 R)).contains (i : Int) = !okA a id n z i := by
  rw [Bool.eq_iff_iff]
  unfold tornA
  simp only [List.contains_iff_mem, List.mem_map, List.mem_filter, List.mem_range']
  constructor
  · rintro ⟨j, ⟨_, h⟩, e⟩
    obtain rfl : j = i := by omega
    exact h
  · intro h
    exact ⟨i, ⟨⟨i, hi, by omega⟩, h⟩, rfl⟩
theorem row_at (a id : ByteArray) (n : Int) (z R i : Nat) (hi : i < R) : ((List.range' 0 R).map (rowA a id n z)).getD i ByteArray.empty = rowA a id n z i := by
  rw [List.getD_eq_getElem?_getD, List.getElem?_map, List.getElem?_range' (by omega)]
  simp
/-- So many bytes laid over others, from a place on. -/
def lay (l : List Int) (by_ : ByteArray) (F : Nat) : Nat → List Int
  | 0 => l
  | x + 1 => (lay l by_ F x).set (F + x) (bt by_ (x : Int))
theorem lay_len (l : List Int) (y : ByteArray) (F : Nat) : ∀ x, (lay l y F x).length = l.length
  | 0 => rfl
  | x + 1 => by rw [lay, List.length_set, lay_len l y F x]
theorem lay_out (l : List Int) (y : ByteArray) (F : Nat) : ∀ x j, (j < F ∨ F + x ≤ j) → (lay l y F x)[j]? = l[j]?
  | 0, _, _ => rfl
  | x + 1, j, h => by
    rw [lay, List.getElem?_set_ne (by omega)]
    exact lay_out l y F x j (by omega)
theorem lay_by (l : List Int) (y : ByteArray) (F : Nat) (h : IsBytes l) : ∀ x, IsBytes (lay l y F x)
  | 0 => h
  | x + 1 => by
    intro v hv
    rw [lay] at hv
    rcases List.mem_or_eq_of_mem_set hv with hv | rfl
    · exact lay_by l y F h x v hv
    · unfold bt
      split
      · rename_i hx
        have := (y[(x : Int).toNat]'hx).toNat_lt
        omega
      · omega
theorem take_by {l : List Int} (h : IsBytes l) (k : Nat) : IsBytes (l.take k) := fun v hv => h v (List.mem_of_mem_take hv)
theorem drop_by {l : List Int} (h : IsBytes l) (k : Nat) : IsBytes (l.drop k) := fun v hv => h v (List.mem_of_mem_drop hv)
/-- Another sector's bytes are as they were. -/
theorem lay_ext (s y : ByteArray) (F x e p q : Nat) (hp : p ≤ q) (hq : q ≤ e) (he : e ≤ s.size) (h : q ≤ F ∨ F + x ≤ p) : (strOfNums ((lay (bytesOf s) y F x).take e)).extract p q = s.extract p q := by
  apply bytesOf_inj
  rw [bytesOf_extract, bytesOf_extract, bytesOf_str (take_by (lay_by _ y F (isBytes_of s) x) e)]
  apply List.ext_getElem?
  intro k
  simp only [List.getElem?_drop, List.getElem?_take]
  by_cases hk : p + k < q
  · rw [if_pos hk, if_pos hk, if_pos (by omega), lay_out _ _ _ _ _ (by omega)]
  · rw [if_neg hk, if_neg hk]
theorem lay_size (s y : ByteArray) (F x e : Nat) (he : e ≤ s.size) : (strOfNums ((lay (bytesOf s) y F x).take e)).size = e := by
  rw [size_nums, List.length_take, lay_len, bytesOf_length]
  omega
/-- The sector itself. -/
theorem lay_now (s y : ByteArray) (F x e p q : Nat) (hq : q ≤ e) (he : e ≤ s.size) : strOfNums (((lay (bytesOf s) y F x).drop p).take (q - p)) = (strOfNums ((lay (bytesOf s) y F x).take e)).extract p q := by
  apply bytesOf_inj
  rw [bytesOf_extract, bytesOf_str (take_by (lay_by _ y F (isBytes_of s) x) e), bytesOf_str (take_by (drop_by (lay_by _ y F (isBytes_of s) x) p) (q - p))]
  apply List.ext_getElem?
  intro k
  simp only [List.getElem?_drop, List.getElem?_take]
  by_cases hk : p + k < q
  · rw [if_pos (by omega), if_pos hk, if_pos (by omega)]
  · rw [if_neg (by omega), if_neg hk]
/-- Of a sector that is there: what tag.Is tells. -/
theorem now_right (u id : ByteArray) (n : Int) (z i : Nat) (hu : (i + 1) * (z + 8) ≤ u.size) :
    ((tagOf id n (i : Int) ((u.extract (i * (z + 8)) ((i + 1) * (z + 8))).extract 0 z)).toList == ((u.extract (i * (z + 8)) ((i + 1) * (z + 8))).extract z (z + 8)).toList) = okA u id n z i ∧
    (okA u id n z i = true → rowA u id n z i = (u.extract (i * (z + 8)) ((i + 1) * (z + 8))).extract 0 z) := by
  have e1 : (i + 1) * (z + 8) = i * (z + 8) + z + 8 := by rw [Nat.succ_mul]; omega
  have x1 : (u.extract (i * (z + 8)) ((i + 1) * (z + 8))).extract 0 z = u.extract (i * (z + 8)) (i * (z + 8) + z) := by
    rw [ByteArray.extract_extract]
    congr 1
    omega
  have x2 : (u.extract (i * (z + 8)) ((i + 1) * (z + 8))).extract z (z + 8) = u.extract (i * (z + 8) + z) ((i + 1) * (z + 8)) := by
    rw [ByteArray.extract_extract]
    congr 1
    omega
  rw [x1, x2, tl_beq]
  constructor
  · unfold okA
    rw [decide_eq_true hu, Bool.true_and]
  · intro o
    unfold rowA
    rw [if_pos o]
theorem apart_other (J y id : ByteArray) (n : Int) (z q x e j : Nat) (hx : x ≤ z + 8) (he : e ≤ J.size) (hE : (j + 1) * (z + 8) ≤ e) (hjq : j ≠ q) :
    okA (strOfNums ((lay (bytesOf J) y (q * (z + 8)) x).take e)) id n z j = okA J id n z j ∧ rowA (strOfNums ((lay (bytesOf J) y (q * (z + 8)) x).take e)) id n z j = rowA J id n z j := by
  have e1 : (j + 1) * (z + 8) = j * (z + 8) + z + 8 := by rw [Nat.succ_mul]; omega
  have hout : (j + 1) * (z + 8) ≤ q * (z + 8) ∨ q * (z + 8) + x ≤ j * (z + 8) := by
    rcases Nat.lt_or_ge j q with h | h
    · exact .inl (Nat.mul_le_mul_right _ h)
    · have h2 : (q + 1) * (z + 8) ≤ j * (z + 8) := Nat.mul_le_mul_right _ (by omega)
      rw [Nat.succ_mul] at h2
      exact .inr (by omega)
  exact okA_same (lay_ext J y _ x e _ _ (by omega) hE he hout) (by rw [lay_size J y _ x e he]; exact hE) (by omega)
theorem apart_now (J y id : ByteArray) (n : Int) (z q x e : Nat) (he : e ≤ J.size) (hE : (q + 1) * (z + 8) ≤ e) :
    (strOfNums (((lay (bytesOf J) y (q * (z + 8)) x).drop (q * (z + 8))).take (z + 8))).size = z + 8 ∧
    ((tagOf id n (q : Int) ((strOfNums (((lay (bytesOf J) y (q * (z + 8)) x).drop (q * (z + 8))).take (z + 8))).extract 0 z)).toList == ((strOfNums (((lay (bytesOf J) y (q * (z + 8)) x).drop (q * (z + 8))).take (z + 8))).extract z (z + 8)).toList) = okA (strOfNums ((lay (bytesOf J) y (q * (z + 8)) x).take e)) id n z q ∧
    (okA (strOfNums ((lay (bytesOf J) y (q * (z + 8)) x).take e)) id n z q = true → rowA (strOfNums ((lay (bytesOf J) y (q * (z + 8)) x).take e)) id n z q = (strOfNums (((lay (bytesOf J) y (q * (z + 8)) x).drop (q * (z + 8))).take (z + 8))).extract 0 z) := by
  have e1 : (q + 1) * (z + 8) = q * (z + 8) + z + 8 := by rw [Nat.succ_mul]; omega
  have e2 : (q + 1) * (z + 8) - q * (z + 8) = z + 8 := by omega
  have h1 := lay_now J y (q * (z + 8)) x e (q * (z + 8)) ((q + 1) * (z + 8)) hE he
  rw [e2] at h1
  rw [h1]
  have hu : (q + 1) * (z + 8) ≤ (strOfNums ((lay (bytesOf J) y (q * (z + 8)) x).take e)).size := by rw [lay_size J y _ x e he]; exact hE
  obtain ⟨k1, k2⟩ := now_right (strOfNums ((lay (bytesOf J) y (q * (z + 8)) x).take e)) id n z q hu
  refine ⟨?_, k1, k2⟩
  rw [size_ext _ _ _ hu, e2]
end Go.Proofs.Ytpgijmnlkfhheaa.Tw
