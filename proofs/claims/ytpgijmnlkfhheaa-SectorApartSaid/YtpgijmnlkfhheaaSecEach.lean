/- (sector.Volume).sectors: the iterator tells each number with its sector's bytes. -/
import Derived.Test.YtpgijmnlkfhheaaRb
import Derived.Test.YtpgijmnlkfhheaaWMore
namespace Go.Proofs.Ytpgijmnlkfhheaa.PSecP
open Go.RowKit Go.Shelf Go.Proofs.YtpgijmnlkfhheaaW.PrintWords Go.Proofs.YtpgijmnlkfhheaaW.PrintLast Go.Proofs.YtpgijmnlkfhheaaW.PrintMore
set_option linter.unusedVariables false
set_option linter.unusedSimpArgs false
attribute [local go_sem] Oper.semAt_some
/-- A sector's bytes, or none. -/
def secX (o : Nat) (s : ByteArray) (i : Nat) : ByteArray := if (i + 1) * o ≤ s.size then s.extract (i * o) ((i + 1) * o) else ⟨#[]⟩
def secs (R o : Nat) (s : ByteArray) : List (Nat × ByteArray) := (List.range R).map fun i => (i, secX o s i)
theorem secs_len (R o : Nat) (s : ByteArray) : (secs R o s).length = R := by simp [secs]
theorem secs_take {R o : Nat} {s : ByteArray} {i : Nat} (h : i < R) : (secs R o s).take (i + 1) = (secs R o s).take i ++ [(i, secX o s i)] := by
  rw [List.take_succ_eq_append_getElem (by rw [secs_len]; exact h)]
  simp [secs]
/-- One of the lists that the iterator has told so far. -/
def told (R o : Nat) (s : ByteArray) (xs : List (Nat × ByteArray)) : Prop := ∃ i, i < R ∧ xs = (secs R o s).take (i + 1)
theorem told_last {R o : Nat} {s : ByteArray} {pre : List (Nat × ByteArray)} {x : Nat × ByteArray} (h : told R o s (pre ++ [x])) : pre.length < R ∧ x = (pre.length, secX o s pre.length) := by
  obtain ⟨i, hi, e⟩ := h
  rw [secs_take hi] at e
  obtain ⟨e1, e2⟩ := List.append_inj' e rfl
  have hl : pre.length = i := by rw [e1, List.length_take, secs_len]; omega
  rw [hl]
  exact ⟨hi, by simpa using e2⟩
def boxes (gv go gs : Nat) (k : Nat) : Prop := k = gv ∨ k = go ∨ k = gs
set_option maxHeartbeats 4000000 in
set_option maxRecDepth 100000 in
theorem secs_tells (n gv go gs : Nat) (id : ByteArray) (num sz : Int) (R o : Nat) (s : ByteArray) (w : World) (hR : R ≤ 96) (ho : o ≤ 520)
    (hv : w.heap[gv]? = some (.cells #[.string id, .int .i64 num, .int .i64 sz, .int .i64 (R : Int)] 23 (0, 0)))
    (hO : w.heap[go]? = some (.cells #[.int .i64 (o : Int)] 3 (0, 0))) (hS : w.heap[gs]? = some (.cells #[.string s] 9 (0, 0))) :
    Rb.Tells Fence.wide n Try.prog 31 #[.pointer (some ⟨gv, 0, none⟩), .pointer (some ⟨go, 0, none⟩), .pointer (some ⟨gs, 0, none⟩)] (fun x : Nat × ByteArray => #[.int .i64 (x.1 : Int), .string x.2]) (boxes gv go gs) (fun xs => xs = secs R o s) (told R o s) w := by
  intro l J W hsz hbox hJ hY h0
  have hv1 := (hbox gv (.inl rfl)).trans hv
  have hO1 := (hbox go (.inr (.inl rfl))).trans hO
  have hS1 := (hbox gs (.inr (.inr rfl))).trans hS
  have c3 : W.cell? ⟨gv, 3, none⟩ = some (.int .i64 (R : Int)) := (blk_cell hv1 3).trans rfl
  refine callsIn_of_wp Try.func31 rfl trivial ?_ rfl
  simp only [Try.ntmps31, List.size_toArray, List.length_cons, List.length_nil, Nat.reduceAdd, Nat.reduceSub, Array.replicate_succ, Array.replicate_zero, List.push_toArray, List.append_toArray, List.nil_append, List.cons_append]
  gi_wp2_with fail
  refine Rb.loop_ghost (fun kq a wr => ∃ (i : Nat) (t4 t5 t6 t7 t11 t12 t13 t14 t15 t16 t17 t18 t19 t20 t21 t22 t23 t24 t25 t26 t27 t28 t29 t30 t31 t32 : Value), a = { tmps := #[.func (.yield l) #[] #[], .pointer (some ⟨gv, 0, none⟩), .pointer (some ⟨go, 0, none⟩), .pointer (some ⟨gs, 0, none⟩), t4, t5, t6, t7, .pointer (some ⟨gv, 3, none⟩), .int .i64 (R : Int), .int .i64 (i : Int), t11, t12, t13, t14, t15, t16, t17, t18, t19, t20, t21, t22, t23, t24, t25, t26, t27, t28, t29, t30, t31, t32], defers := [] } ∧ kq + i = R ∧ (∀ k, boxes gv go gs k → wr.heap[k]? = w.heap[k]?) ∧ J ((secs R o s).take i) wr) R ⟨0, undef, undef, undef, undef, undef, undef, undef, undef, undef, undef, undef, undef, undef, undef, undef, undef, undef, undef, undef, undef, undef, undef, undef, undef, undef, undef, rfl, rfl, hbox, h0⟩ ?_
  rintro kq a wr ⟨i, t4, t5, t6, t7, t11, t12, t13, t14, t15, t16, t17, t18, t19, t20, t21, t22, t23, t24, t25, t26, t27, t28, t29, t30, t31, t32, rfl, hki, hbw, hJ'⟩
  have hO2 := (hbw go (.inr (.inl rfl))).trans hO
  have hS2 := (hbw gs (.inr (.inr rfl))).trans hS
  have hv2 := (hbw gv (.inl rfl)).trans hv
  have d1 : wr.cell? ⟨go, 0, none⟩ = some (.int .i64 (o : Int)) := (blk_cell hO2 0).trans rfl
  have d2 : wr.cell? ⟨gs, 0, none⟩ = some (.string s) := (blk_cell hS2 0).trans rfl
  have hlt3 : ∀ k, boxes gv go gs k → k < wr.heap.size := by
    rintro k (rfl | rfl | rfl)
    · exact blk_lt hv2
    · exact blk_lt hO2
    · exact blk_lt hS2
  have HJ' := Aside0.mk hJ'
  have HBW := Aside0.mk hbw
  have HL3 := Aside0.mk hlt3
  have HJ := Aside0.mk hJ
  have HY := Aside0.mk hY
  clear hv hO hS hv1 hO1 hS1 c3 hJ' hbw hlt3 hbox h0 hJ hY hO2 hS2 hv2
  by_cases hi : i < R
  · obtain ⟨E, hE⟩ : ∃ E, (i + 1) * o = E := ⟨_, rfl⟩
    obtain ⟨F, hF⟩ : ∃ F, i * o = F := ⟨_, rfl⟩
    have hEF : E = F + o := by rw [← hE, ← hF, Nat.succ_mul]
    have hEb : E ≤ 97 * 520 := by rw [← hE]; exact Nat.mul_le_mul (by omega) ho
    have hx : secX o s i = if E ≤ s.size then s.extract F E else ⟨#[]⟩ := by unfold secX; rw [hE, hF]
    have hm : ((i : Int) + 1) * (o : Int) = (E : Int) := by rw [← hE]; push_cast; rfl
    obtain ⟨fn, tmps, assign, body, hy, hR2⟩ := HY.out ((secs R o s).take i) (i, secX o s i) wr HJ'.out ⟨i, hi, (secs_take hi).symm⟩ HL3.out
    dsimp only at hy
    have HR := Aside0.mk hR2
    have HX := Aside0.mk hx
    clear hE hF hR2 hx
    have hlow : (E : Int) - (o : Int) = (F : Int) := by omega
    have hFE : F ≤ E := by omega
    clear hEF
    have next : ∀ W3, J ((secs R o s).take i ++ [(i, secX o s i)]) W3 → J ((secs R o s).take (i + 1)) W3 := fun W3 h => by rw [secs_take hi]; exact h
    have NX := Aside0.mk next
    clear next
    by_cases hle : E ≤ s.size
    · rw [HX.out, if_pos hle] at hy
      have dle : decide ((E : Int) ≤ (s.size : Int)) = true := decide_eq_true (by omega)
      gi_wp2_with fail
      refine ⟨fun h => (by cases h), HR.out.mono ?_⟩
      rintro e W3 ⟨rfl, hJ3, hsz3, hb3⟩
      have HJ3 := Aside0.mk hJ3
      have HB3 := Aside0.mk hb3
      clear hJ3 hsz3 hb3
      gi_wp2_with fail
      refine ⟨kq - 1, by omega, i + 1, _, _, _, _, _, _, _, _, _, _, _, _, _, _, _, _, _, _, _, _, _, _, _, _, _, _, rfl, by omega, fun k hk => (HB3.out k hk).trans (HBW.out k hk), NX.out W3 HJ3.out⟩
    · rw [HX.out, if_neg hle] at hy
      have dle : decide ((E : Int) ≤ (s.size : Int)) = false := decide_eq_false (by omega)
      gi_wp2_with fail
      refine ⟨fun h => (by cases h), HR.out.mono ?_⟩
      rintro e W3 ⟨rfl, hJ3, hsz3, hb3⟩
      have HJ3 := Aside0.mk hJ3
      have HB3 := Aside0.mk hb3
      clear hJ3 hsz3 hb3
      gi_wp2_with fail
      refine ⟨kq - 1, by omega, i + 1, _, _, _, _, _, _, _, _, _, _, _, _, _, _, _, _, _, _, _, _, _, _, _, _, _, _, rfl, by omega, fun k hk => (HB3.out k hk).trans (HBW.out k hk), NX.out W3 HJ3.out⟩
  · obtain rfl : i = R := by omega
    gi_wp2_with fail
    have hfin : J (secs i o s) wr := by
      have e := HJ'.out
      rw [List.take_of_length_le (by rw [secs_len]; exact Nat.le_refl _)] at e
      exact e
    exact bodyPost_end (results_none rfl _ _ _) rfl ⟨⟨_, rfl⟩, _, rfl, hfin⟩
set_option maxHeartbeats 1000000 in
theorem sectors_calls (id : ByteArray) (num sz rows : Int) (s : ByteArray) (w : World) (h0 : 0 ≤ sz) (h1 : sz ≤ 512) : Calls Try.prog 26 #[.agg #[.string id, .int .i64 num, .int .i64 sz, .int .i64 rows], .string s] w fun e w' => e = .returned (.func (.func 31) #[] #[.pointer (some ⟨w.heap.size, 0, none⟩), .pointer (some ⟨w.heap.size + 1 + 1, 0, none⟩), .pointer (some ⟨w.heap.size + 1, 0, none⟩)]) ∧
    w' = ((w.alloc (.cells #[.string id, .int .i64 num, .int .i64 sz, .int .i64 rows] 23)).alloc (.cells #[.string s] 9)).alloc (.cells #[.int .i64 (sz + 8)] 3) := by
  go_enter Try.func26, Try.ntmps26
  go_wp2_with fail
  go_ret
  exact ⟨rfl, rfl⟩
end Go.Proofs.Ytpgijmnlkfhheaa.PSecP
