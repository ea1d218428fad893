/- Reading what is said of a file, in plain words. -/
import Derived.Test.YteplphpbpaojjaaDoorMetaPlain
import Derived.Test.YteplphpbpaojjaaDoorMetaPure
namespace Go.Proofs.YteplphpbpaojjaaDoor.Me
open Go.Lib
set_option linter.unusedVariables false
set_option linter.unusedSimpArgs false
end Go.Proofs.YteplphpbpaojjaaDoor.Me
namespace Go.Proofs.YteplphpbpaojjaaDoor.Me
open Go.RowKit Go.Lib Go.Proofs.YteplphpbpaojjaaDoorW.PrintWords Go.Proofs.YteplphpbpaojjaaDoorW.PrintLast Go.Proofs.YteplphpbpaojjaaDoorW.PrintMore Go.Proofs.YteplphpbpaojjaaDoor.PMa Go.Proofs.YteplphpbpaojjaaDoor.Pb
set_option linter.unusedVariables false
set_option linter.unusedSimpArgs false
def errA : Ans := ⟨⟨#[]⟩, 0, 0, 0, ⟨#[]⟩, 0, 4⟩
theorem takes {s : ByteArray} {u n : Nat} (h : u + n ≤ s.size) : takeT s u n = s.extract u (u + n) ∧ takeU s u n = u + n ∧ takeB s u n = false :=
  ⟨if_pos h, if_pos h, decide_eq_false (fun k => k h)⟩
theorem takeU_eq {s : ByteArray} {u n : Nat} (h : takeB s u n = false) : u + n ≤ s.size ∧ takeU s u n = u + n := by
  have h1 : u + n ≤ s.size := by
    have := of_decide_eq_false h
    omega
  exact ⟨h1, if_pos h1⟩
theorem read_fit {s : ByteArray} {n0 : Nat} (h0 : num s 0 1 = (n0 : Int)) (h1 : 47 + n0 ≤ s.size) :
    readA s = if mayB (s.extract 1 (1 + n0)) (num s (1 + n0) 2) (num s (1 + n0 + 2) 8) (num s (1 + n0 + 2 + 8) 4) (s.extract (1 + n0 + 2 + 8 + 4) (1 + n0 + 2 + 8 + 4 + 32)) = true then
      ⟨s.extract 1 (1 + n0), num s (1 + n0) 2, num s (1 + n0 + 2) 8, num s (1 + n0 + 2 + 8) 4, s.extract (1 + n0 + 2 + 8 + 4) (1 + n0 + 2 + 8 + 4 + 32), 1 + n0 + 2 + 8 + 4 + 32, 0⟩ else errA := by
  obtain ⟨a1, a2, a3⟩ := takes (s := s) (u := 0) (n := 1) (by omega)
  obtain ⟨b1, b2, b3⟩ := takes (s := s) (u := 1) (n := n0) (by omega)
  obtain ⟨c1, c2, c3⟩ := takes (s := s) (u := 1 + n0) (n := 2) (by omega)
  obtain ⟨d1, d2, d3⟩ := takes (s := s) (u := 1 + n0 + 2) (n := 8) (by omega)
  obtain ⟨e1, e2, e3⟩ := takes (s := s) (u := 1 + n0 + 2 + 8) (n := 4) (by omega)
  obtain ⟨f1, f2, f3⟩ := takes (s := s) (u := 1 + n0 + 2 + 8 + 4) (n := 32) (by omega)
  have a2' : takeU s 0 1 = 1 := a2
  unfold readA
  rw [h0, Int.toNat_natCast, a2', b2, c2, d2, e2, f2, a3, b3, c3, d3, e3, f3, b1, f1]
  rw [if_neg (by decide)]
  rfl
theorem read_short {s : ByteArray} {n0 : Nat} (h0 : num s 0 1 = (n0 : Int)) (h1 : ¬ 47 + n0 ≤ s.size) : readA s = errA := by
  unfold readA
  rw [h0, Int.toNat_natCast]
  refine if_pos ?_
  cases ha : takeB s 0 1 with
  | true => simp
  | false =>
    obtain ⟨a1, a2⟩ := takeU_eq ha
    rw [a2]
    cases hb : takeB s (0 + 1) n0 with
    | true => simp
    | false =>
      obtain ⟨b1, b2⟩ := takeU_eq hb
      rw [b2]
      cases hc : takeB s (0 + 1 + n0) 2 with
      | true => simp
      | false =>
        obtain ⟨c1, c2⟩ := takeU_eq hc
        rw [c2]
        cases hd : takeB s (0 + 1 + n0 + 2) 8 with
        | true => simp
        | false =>
          obtain ⟨d1, d2⟩ := takeU_eq hd
          rw [d2]
          cases he : takeB s (0 + 1 + n0 + 2 + 8) 4 with
          | true => simp
          | false =>
            obtain ⟨e1, e2⟩ := takeU_eq he
            rw [e2]
            cases hf : takeB s (0 + 1 + n0 + 2 + 8 + 4) 32 with
            | true => simp
            | false =>
              obtain ⟨f1, f2⟩ := takeU_eq hf
              omega
theorem dg_by : ∀ (d : Nat) (x : Int), IsBytes (dg x d)
  | 0, _ => fun v hv => by cases hv
  | d + 1, x => by
    intro v hv
    rw [dg, List.mem_append, List.mem_singleton] at hv
    rcases hv with hv | rfl
    · exact dg_by d _ v hv
    · omega
theorem bytes_numS (n : Int) (m : Nat) : bytesOf (numS n m) = dg n m := by
  have e : numS n m = strOfNums (dg n m) := by unfold numS strOfNums; rw [top_dg]
  rw [e, bytesOf_str (dg_by m n)]
theorem snoc_ind {P : List Int → Prop} (h0 : P []) (h1 : ∀ l x, P l → P (l ++ [x])) : ∀ l, P l := by
  have h : ∀ l : List Int, P l.reverse := by
    intro l
    induction l with
    | nil => exact h0
    | cons x l ih => rw [List.reverse_cons]; exact h1 _ _ ih
  intro l
  have := h l.reverse
  rwa [List.reverse_reverse] at this
theorem be_pos : ∀ (l : List Int), IsBytes l → 0 ≤ beL l ∧ beL l < (256 : Int) ^ l.length := by
  refine snoc_ind (fun _ => ⟨by decide, by decide⟩) ?_
  · intro l x ih h
    obtain ⟨i1, i2⟩ := ih (fun v hv => h v (List.mem_append_left _ hv))
    have hx := h x (List.mem_append_right _ (List.mem_singleton_self x))
    rw [be_snoc, List.length_append, List.length_singleton, Int.pow_succ]
    generalize (256 : Int) ^ l.length = P at i2
    omega
theorem dg_be : ∀ (l : List Int), IsBytes l → dg (beL l) l.length = l := by
  refine snoc_ind (fun _ => rfl) ?_
  · intro l x ih h
    have hl : IsBytes l := fun v hv => h v (List.mem_append_left _ hv)
    have hx := h x (List.mem_append_right _ (List.mem_singleton_self x))
    have e1 : (beL l * 256 + x) / 256 = beL l := by omega
    have e2 : (beL l * 256 + x) % 256 = x := by omega
    rw [be_snoc, List.length_append, List.length_singleton, dg, e1, e2, ih hl]
theorem wrap_id64 {x : Int} (h0 : 0 ≤ x) (h1 : x ≤ 9223372036854775807) : IntKind.i64.wrap x = x := by rw [IntKind.wrap_i64]; omega
theorem numS_num {s : ByteArray} {u m : Nat} (h : u + m ≤ s.size) (hm : m ≤ 8) (h0 : 0 ≤ num s u m) : numS (num s u m) m = s.extract u (u + m) := by
  unfold num at h0 ⊢
  rw [(takes h).1] at h0 ⊢
  have hl : (bytesOf (s.extract u (u + m))).length = m := by rw [Go.Proofs.YteplphpbpaojjaaDoorW.PrintWords.bytesOf_length, size_ext _ _ _ h]; omega
  have hb := isBytes_of (s.extract u (u + m))
  obtain ⟨p1, p2⟩ := be_pos _ hb
  have p3 : beL (bytesOf (s.extract u (u + m))) < 18446744073709551616 := by
    refine Int.lt_of_lt_of_le p2 ?_
    rw [hl]
    have h8 : (256 : Int) ^ m ≤ (256 : Int) ^ 8 := by
      rcases (show m = 0 ∨ m = 1 ∨ m = 2 ∨ m = 3 ∨ m = 4 ∨ m = 5 ∨ m = 6 ∨ m = 7 ∨ m = 8 by omega) with e | e | e | e | e | e | e | e | e <;> subst e <;> decide
    exact h8
  have e : IntKind.i64.wrap (beL (bytesOf (s.extract u (u + m)))) = beL (bytesOf (s.extract u (u + m))) := by
    rw [IntKind.wrap_i64] at h0 ⊢
    omega
  rw [e]
  apply bytesOf_inj
  rw [bytes_numS]
  have := dg_be _ hb
  rw [hl] at this
  exact this
theorem read_cases (s : ByteArray) : readA s = errA ∨ ((readA s).e = 0 ∧ mayB (readA s).nm (readA s).mo (readA s).ti (readA s).sz (readA s).su = true ∧ (readA s).used = 47 + (readA s).nm.size ∧ (readA s).used ≤ s.size ∧ makeB (readA s).nm (readA s).mo (readA s).ti (readA s).sz (readA s).su = s.extract 0 (readA s).used) := by
  obtain ⟨n0, hn0, hn1⟩ := num_one s 0
  by_cases h1 : 47 + n0 ≤ s.size
  · have h := read_fit hn0 h1
    by_cases hM : mayB (s.extract 1 (1 + n0)) (num s (1 + n0) 2) (num s (1 + n0 + 2) 8) (num s (1 + n0 + 2 + 8) 4) (s.extract (1 + n0 + 2 + 8 + 4) (1 + n0 + 2 + 8 + 4 + 32)) = true
    · rw [if_pos hM] at h
      refine .inr ?_
      rw [h]
      have hnm : (s.extract 1 (1 + n0)).size = n0 := by rw [size_ext _ _ _ (by omega)]; omega
      refine ⟨rfl, hM, by show 1 + n0 + 2 + 8 + 4 + 32 = 47 + (s.extract 1 (1 + n0)).size; rw [hnm]; omega, by show 1 + n0 + 2 + 8 + 4 + 32 ≤ s.size; omega, ?_⟩
      unfold mayB at hM
      rw [Bool.and_eq_true] at hM
      obtain ⟨r1, r2, r3, r4, r5, r6, r7⟩ := rest_iff hM.2
      show makeB (s.extract 1 (1 + n0)) (num s (1 + n0) 2) (num s (1 + n0 + 2) 8) (num s (1 + n0 + 2 + 8) 4) (s.extract (1 + n0 + 2 + 8 + 4) (1 + n0 + 2 + 8 + 4 + 32)) = s.extract 0 (1 + n0 + 2 + 8 + 4 + 32)
      unfold makeB
      rw [hnm, ← hn0, numS_num (by omega) (by decide) (by rw [hn0]; omega), numS_num (by omega) (by decide) r1, numS_num (by omega) (by decide) r3, numS_num (by omega) (by decide) r5]
      rw [show (0 : Nat) + 1 = 1 from rfl]
      rw [← ByteArray.extract_eq_extract_append_extract 1 (by omega) (by omega), ← ByteArray.extract_eq_extract_append_extract (1 + n0) (by omega) (by omega), ← ByteArray.extract_eq_extract_append_extract (1 + n0 + 2) (by omega) (by omega), ← ByteArray.extract_eq_extract_append_extract (1 + n0 + 2 + 8) (by omega) (by omega), ← ByteArray.extract_eq_extract_append_extract (1 + n0 + 2 + 8 + 4) (by omega) (by omega)]
    · rw [if_neg hM] at h
      exact .inl h
  · exact .inl (read_short hn0 h1)
end Go.Proofs.YteplphpbpaojjaaDoor.Me
