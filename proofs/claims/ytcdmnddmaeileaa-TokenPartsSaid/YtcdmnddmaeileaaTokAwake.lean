import Derived.Test.YtcdmnddmaeileaaTokText
import Derived.ChangeKeysEq
namespace Go.Proofs.Ytcdmnddmaeileaa.PToken
open Go.RowKit Go.Proofs.YtcdmnddmaeileaaW.PrintWords Go.Proofs.YtcdmnddmaeileaaW.PrintLast Go.Proofs.YtcdmnddmaeileaaW.PrintMore
attribute [local go_sem] max2_int min2_int max_two min_two max_three min_three max_four min_four
attribute [local go_sem high] eqTok
set_option linter.unusedVariables false
set_option linter.unusedSimpArgs false
section
variable {P : Program} {w : World} {d : Nat} {e : TypeId} {c i : Nat} {xs ys : Array Value} {a b : Value} {r s : Bool} {is : List Nat}
theorem eqi_cons (ha : (part e xs (i * c)).run P w = .ok a w) (hb : (part e ys (i * c)).run P w = .ok b w) (he : (Op.equalIn d e a b).run P w = .ok r w) (hr : (Op.eqItems d e c xs ys is).run P w = .ok s w) : (Op.eqItems d e c xs ys (i :: is)).run P w = .ok (r && s) w := by
  simp only [Op.eqItems, Sem.run_bind, ha, hb, he, Result.andThen_ok]
  cases r
  · simp
  · simp [hr]
theorem eqi_nil : (Op.eqItems d e c xs ys []).run P w = .ok true w := by simp [Op.eqItems]
end
theorem eqRow (d : Nat) (w : World) (x0 x1 x2 x3 y0 y1 y2 y3 : Int) :
    (Op.equalIn (d + 2) 29 (.agg #[.int .i64 x0, .int .i64 x1, .int .i64 x2, .int .i64 x3]) (.agg #[.int .i64 y0, .int .i64 y1, .int .i64 y2, .int .i64 y3])).run Try.prog w = .ok (x0 == y0 && (x1 == y1 && (x2 == y2 && (x3 == y3 && true)))) w := by
  obtain ⟨i0, hi⟩ : ∃ i0, Try.prog.info? 3 = some i0 := by
    have h : (Try.prog.info? 3).isSome = true := by kernel_rfl
    exact Option.isSome_iff_exists.mp h
  have hc : Try.prog.cellsOf 3 = 1 := by kernel_rfl
  rw [run_equalIn_array w (d + 1) _ _ Try.underlying29 hi, hc]
  show (Op.eqItems (d + 1) 3 1 _ _ [0, 1, 2, 3]).run Try.prog w = _
  refine eqi_cons (by go_simp; rfl) (by go_simp; rfl) (by go_simp) ?_
  refine eqi_cons (by go_simp; rfl) (by go_simp; rfl) (by go_simp) ?_
  refine eqi_cons (by go_simp; rfl) (by go_simp; rfl) (by go_simp) ?_
  refine eqi_cons (by go_simp; rfl) (by go_simp; rfl) (by go_simp) ?_
  exact eqi_nil
attribute [local go_sem high] eqRow
def tk (k b l d s : Int) : S23 := ⟨k, b, l, d, s⟩
/-- The cells of tokens. -/
def cellsT (L : List S23) : List Value := L.flatMap fun t => [.int .u8 t.f0, .int .u8 t.f1, .int .i64 t.f2, .int .i64 t.f3, .int .i64 t.f4]
theorem cellsT_at : ∀ (L : List S23) (j : Nat) (p : S23), L[j]? = some p → ∀ i u, [Value.int .u8 p.f0, .int .u8 p.f1, .int .i64 p.f2, .int .i64 p.f3, .int .i64 p.f4][i]? = some u → (cellsT L)[j * 5 + i]? = some u
  | [], j, p, h, i, u, hu => by simp at h
  | t :: L, 0, p, h, i, u, hu => by
    obtain rfl : t = p := by simpa using h
    have hi : i < 5 := by
      rcases Nat.lt_or_ge i 5 with h5 | h5
      · exact h5
      · rw [List.getElem?_eq_none (by simpa using h5)] at hu
        cases hu
    rw [Nat.zero_mul, Nat.zero_add, cellsT, List.flatMap_cons, List.getElem?_append_left (by simpa using hi)]
    exact hu
  | t :: L, j + 1, p, h, i, u, hu => by
    have h' : L[j]? = some p := by simpa using h
    rw [cellsT, List.flatMap_cons, List.getElem?_append_right (by simp; omega)]
    have e : (j + 1) * 5 + i - ([Value.int .u8 t.f0, .int .u8 t.f1, .int .i64 t.f2, .int .i64 t.f3, .int .i64 t.f4] : List Value).length = j * 5 + i := by simp; omega
    rw [e]
    exact cellsT_at L j p h' i u hu
theorem toks_at (L : List S23) (w : World) (Z : Nat) (h : w.heap[Z]? = some (.cells (cellsT L).toArray 23 (0, 0))) (o n : Nat) (ho : o + n ≤ L.length) (hn : n ≤ 1000) :
    Kd.C k23 w (some ⟨Z, o * 5, none⟩) ((L.drop o).take n).length ((L.drop o).take n) := by
  refine ⟨rfl, by rw [List.length_take]; omega, fun _ => ⟨_, rfl, fun j p hj => ⟨_, rfl, k23_mk w p, fun i u hu => ?_⟩⟩⟩
  rw [Addr.add_lit, blk_cell h, List.getElem?_toArray]
  have hl : L[o + j]? = some p := by
    rw [List.getElem?_take] at hj
    split at hj
    · rw [List.getElem?_drop] at hj; exact hj
    · cases hj
  have := cellsT_at L (o + j) p hl i u hu
  have e : o * 5 + (j * k23.sz + i) = (o + j) * 5 + i := by show o * 5 + (j * 5 + i) = _; omega
  rw [e]
  exact this
def L3 : List S23 := [tk 1 97 0 0 0, tk 2 0 4 1 0, tk 3 0 3 0 0]
theorem r1 : textR [tk 1 97 0 0 0, tk 2 0 4 1 0] 99 st0 = (⟨#[97, 97, 97, 97, 97]⟩, 0) := by decide +kernel
theorem r2 : textR L3 99 st0 = (⟨#[97, 97, 97, 97, 97, 97, 97, 97]⟩, 0) := by decide +kernel
theorem r3 : textR [tk 3 0 3 0 0] 99 st0 = (⟨#[]⟩, 4) := by decide +kernel
theorem fr1 (w : World) : Calls Try.prog 11 #[.agg #[.int .i64 5, .int .i64 3, .int .i64 0, .int .i64 0], .int .i64 3] w fun e w' => e = .returned (.agg #[.int .i64 3, .int .i64 5, .int .i64 0, .int .i64 0]) ∧ Below w.heap.size w w' := token_Front_calls 5 3 0 0 3 w
theorem fr2 (w : World) : Calls Try.prog 11 #[.agg #[.int .i64 1, .int .i64 2, .int .i64 3, .int .i64 4], .int .i64 9] w fun e w' => e = .returned (.agg #[.int .i64 9, .int .i64 1, .int .i64 2, .int .i64 3]) ∧ Below w.heap.size w w' := token_Front_calls 1 2 3 4 9 w
theorem bel2 {w w1 w2 : World} (h : Below w.heap.size w w1) (k : Below w1.heap.size w1 w2) : Below w.heap.size w w2 := h.trans (k.mono h.size)
set_option maxHeartbeats 4000000 in
set_option maxRecDepth 100000 in
theorem awake_walk (w : World) : Calls Try.prog 10 #[] w fun e w' => e = .returned (.bool true) ∧ Below w.heap.size w w' := by
  go_enter Try.func10, Try.ntmps10
  go_wp2_with fail
  obtain ⟨Z, hZ⟩ : ∃ Z, Z = w.heap.size := ⟨_, rfl⟩
  have H0 := Aside0.mk (show (w.alloc (.cells (cellsT L3).toArray 23)).heap[Z]? = some (.cells (cellsT L3).toArray 23 (0, 0)) from by rw [hZ]; exact blk_new w _)
  have B0 := Aside0.mk (below_alloc (Below.refl w.heap.size w) (.cells (cellsT L3).toArray 23))
  rw [← hZ]
  clear hZ
  change Calls _ _ _ (w.alloc (.cells (cellsT L3).toArray 23)) _
  generalize w.alloc (.cells (cellsT L3).toArray 23) = W at *
  refine (text_calls (some ⟨Z, 0, none⟩) 3 [tk 1 97 0 0 0, tk 2 0 4 1 0] 99 W (toks_at L3 W Z H0.out 0 2 (by decide) (by decide)) (by decide) (by decide)).mono ?_
  rintro e w1 ⟨rfl, hb⟩
  rw [r1]
  have H1 := Aside0.mk ((hb.block Z (blk_lt H0.out)).trans H0.out)
  have B1 := Aside0.mk (bel2 B0.out hb)
  clear hb H0 B0
  go_wp2_with fail
  refine (text_calls (some ⟨Z, 0, none⟩) 3 L3 99 w1 (toks_at L3 w1 Z H1.out 0 3 (by decide) (by decide)) (by decide) (by decide)).mono ?_
  rintro e w2 ⟨rfl, hb⟩
  rw [r2]
  have H2 := Aside0.mk ((hb.block Z (blk_lt H1.out)).trans H1.out)
  have B2 := Aside0.mk (bel2 B1.out hb)
  clear hb H1 B1
  go_wp2_with fail
  refine (text_calls (some ⟨Z, 10, none⟩) 1 [tk 3 0 3 0 0] 99 w2 (toks_at L3 w2 Z H2.out 2 1 (by decide) (by decide)) (by decide) (by decide)).mono ?_
  rintro e w3 ⟨rfl, hb⟩
  rw [r3]
  have B3 := Aside0.mk (bel2 B2.out hb)
  clear hb H2 B2
  go_wp2_with fail
  refine (fr1 _).mono ?_
  rintro e w4 ⟨rfl, hb⟩
  have B4 := Aside0.mk (bel2 B3.out hb)
  clear hb B3
  go_wp2_with fail
  refine (fr2 _).mono ?_
  rintro e w5 ⟨rfl, hb⟩
  have B5 := Aside0.mk (bel2 B4.out hb)
  clear hb B4
  go_wp2_with fail
  go_ret
  exact ⟨rfl, B5.out⟩
end Go.Proofs.Ytcdmnddmaeileaa.PToken
