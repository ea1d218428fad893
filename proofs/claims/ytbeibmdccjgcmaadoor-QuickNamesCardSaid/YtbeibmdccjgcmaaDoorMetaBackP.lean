/- Reading what is said of a file, in plain words. -/
import Derived.Test.YtbeibmdccjgcmaaDoorMetaNumber
import Derived.Test.YtbeibmdccjgcmaaDoorPb
import Derived.Test.YtbeibmdccjgcmaaDoorPQux51
import Derived.Test.YtbeibmdccjgcmaaDoorPQux56
import Derived.Test.YtbeibmdccjgcmaaDoorPQux75
import Derived.Test.YtbeibmdccjgcmaaDoorPQux48
import Derived.Test.YtbeibmdccjgcmaaDoorPQux50
import Derived.Test.YtbeibmdccjgcmaaDoorQTog
import Derived.Test.YtbeibmdccjgcmaaDoorMetaSplit
namespace Go.Proofs.YtbeibmdccjgcmaaDoor.Me
open Go.RowKit Go.Lib Go.Proofs.YtbeibmdccjgcmaaDoorW.PrintWords Go.Proofs.YtbeibmdccjgcmaaDoorW.PrintLast Go.Proofs.YtbeibmdccjgcmaaDoorW.PrintMore Go.Proofs.YtbeibmdccjgcmaaDoor.PQu Go.Proofs.YtbeibmdccjgcmaaDoor.Pb
set_option linter.unusedVariables false
set_option linter.unusedSimpArgs false
theorem numS_size (n : Int) (m : Nat) : (numS n m).size = m := topN_len n m m
def makeB (nm : ByteArray) (mo ti sz : Int) (su : ByteArray) : ByteArray := ((((numS (nm.size : Int) 1 ++ nm) ++ numS mo 2) ++ numS ti 8) ++ numS sz 4) ++ su
def makeR (nm : ByteArray) (mo ti sz : Int) (su : ByteArray) : ByteArray × Int := if nameL nm.data.toList = true then (if restB mo ti sz su = true then (makeB nm mo ti sz su, 0) else (⟨#[]⟩, 4)) else (⟨#[]⟩, 60)
theorem number_f (n m : Int) (h0 : 0 < m) (h8 : m ≤ 8) (hn : -9223372036854775808 ≤ n) (hn2 : n ≤ 9223372036854775807) : meta_number.f n m = some (numS n m.toNat) := by
  unfold meta_number.f
  rw [if_pos ⟨h0, h8, hn, hn2⟩]
theorem name_f (s : ByteArray) : meta_Name.f s = some (nameL s.data.toList) := rfl
theorem rest_iff {mo ti sz : Int} {su : ByteArray} (h : restB mo ti sz su = true) : 0 ≤ mo ∧ mo ≤ 65535 ∧ 0 ≤ ti ∧ ti ≤ 1099511627776 ∧ 0 ≤ sz ∧ sz ≤ 32768 ∧ su.size = 32 := of_decide_eq_true h
theorem name_len {s : ByteArray} (h : nameL s.data.toList = true) : s.size ≤ 255 := by
  unfold nameL at h
  simp only [Bool.and_eq_true, decide_eq_true_eq] at h
  exact h.1
theorem make_f (nm : ByteArray) (mo ti sz : Int) (su : ByteArray) : meta_Make.f nm mo ti sz su = some (makeR nm mo ti sz su) := by
  unfold meta_Make.f makeR
  refine bind_eq (name_f nm) ?_
  by_cases hN : nameL nm.data.toList = true
  · rw [if_pos hN, if_pos hN]
    have hl := name_len hN
    refine bind_eq rfl ?_
    by_cases hR : restB mo ti sz su = true
    · rw [if_pos hR, if_pos hR]
      obtain ⟨r1, r2, r3, r4, r5, r6, r7⟩ := rest_iff hR
      refine bind_eq (number_f _ 1 (by decide) (by decide) (by omega) (by omega)) (ite_yes (by rw [numS_size]; show 1 + nm.size ≤ _; omega) ?_)
      refine bind_eq (number_f _ 2 (by decide) (by decide) (by omega) (by omega)) (ite_yes (by rw [ByteArray.size_append, numS_size, numS_size]; show 1 + nm.size + 2 ≤ _; omega) ?_)
      refine bind_eq (number_f _ 8 (by decide) (by decide) (by omega) (by omega)) (ite_yes (by rw [ByteArray.size_append, ByteArray.size_append, numS_size, numS_size, numS_size]; show 1 + nm.size + 2 + 8 ≤ _; omega) ?_)
      refine bind_eq (number_f _ 4 (by decide) (by decide) (by omega) (by omega)) (ite_yes (by rw [ByteArray.size_append, ByteArray.size_append, ByteArray.size_append, numS_size, numS_size, numS_size, numS_size]; show 1 + nm.size + 2 + 8 + 4 ≤ _; omega) ?_)
      refine (ite_yes (by rw [ByteArray.size_append, ByteArray.size_append, ByteArray.size_append, ByteArray.size_append, numS_size, numS_size, numS_size, numS_size, r7]; show 1 + nm.size + 2 + 8 + 4 + 32 ≤ _; omega) ?_)
      rfl
    · rw [if_neg hR, if_neg hR]
  · rw [if_neg hN, if_neg hN]
/-! ### The document's names -/
/-! ### The document's numbers -/
def dg (x : Int) : Nat → List Int
  | 0 => []
  | d + 1 => dg (x / 256) d ++ [x % 256]
theorem top_shift (n : Int) (m : Nat) : ∀ k, k ≤ m → topN n (m + 1) k = topN (n / 256) m k
  | 0, _ => rfl
  | k + 1, h => by
    rw [topN, topN, top_shift n m k (by omega)]
    congr 3
    have e : 8 * (m + 1 - (k + 1)) = 8 + 8 * (m - (k + 1)) := by omega
    rw [e, Int.pow_add, ← Int.ediv_ediv_of_nonneg (by decide)]
    rfl
theorem top_dg : ∀ (m : Nat) (n : Int), topN n m m = (dg n m).map fun x => UInt8.ofNat x.toNat
  | 0, _ => rfl
  | m + 1, n => by
    rw [topN, top_shift n m m (Nat.le_refl _), top_dg m (n / 256), dg, List.map_append]
    congr 1
    have e : 8 * (m + 1 - (m + 1)) = 0 := by omega
    rw [e]
    simp
end Go.Proofs.YtbeibmdccjgcmaaDoor.Me
namespace Go.Proofs.YtbeibmdccjgcmaaDoor.Me
open Go.RowKit Go.Lib Go.Proofs.YtbeibmdccjgcmaaDoorW.PrintWords Go.Proofs.YtbeibmdccjgcmaaDoorW.PrintLast Go.Proofs.YtbeibmdccjgcmaaDoorW.PrintMore Go.Proofs.YtbeibmdccjgcmaaDoor.PQu Go.Proofs.YtbeibmdccjgcmaaDoor.Pb
set_option linter.unusedVariables false
set_option linter.unusedSimpArgs false
def errA : Ans := ⟨⟨#[]⟩, 0, 0, 0, ⟨#[]⟩, 0, 4⟩
theorem takes {s : ByteArray} {u n : Nat} (h : u + n ≤ s.size) : takeT s u n = s.extract u (u + n) ∧ takeU s u n = u + n ∧ takeB s u n = false :=
  ⟨if_pos h, if_pos h, decide_eq_false (fun k => k h)⟩
theorem takeU_eq {s : ByteArray} {u n : Nat} (h : takeB s u n = false) : u + n ≤ s.size ∧ takeU s u n = u + n := by
  have h1 : u + n ≤ s.size := by
    have := of_decide_eq_false h
    omega
  exact ⟨h1, if_pos h1⟩
theorem read_fit {s : ByteArray} {n0 : Nat} (h0 : num s 0 1 = (n0 : Int)) (h1 : 47 + n0 ≤ s.size) :
    readA s = if mayB (s.extract 1 (1 + n0)) (num s (1 + n0) 2) (num s (1 + n0 + 2) 8) (num s (1 + n0 + 2 + 8) 4) (s.extract (1 + n0 + 2 + 8 + 4) (1 + n0 + 2 + 8 + 4 + 32)) = true then
      ⟨s.extract 1 (1 + n0), num s (1 + n0) 2, num s (1 + n0 + 2) 8, num s (1 + n0 + 2 + 8) 4, s.extract (1 + n0 + 2 + 8 + 4) (1 + n0 + 2 + 8 + 4 + 32), 1 + n0 + 2 + 8 + 4 + 32, 0⟩ else errA := by
  obtain ⟨a1, a2, a3⟩ := takes (s := s) (u := 0) (n := 1) (by omega)
  obtain ⟨b1, b2, b3⟩ := takes (s := s) (u := 1) (n := n0) (by omega)
  obtain ⟨c1, c2, c3⟩ := takes (s := s) (u := 1 + n0) (n := 2) (by omega)
  obtain ⟨d1, d2, d3⟩ := takes (s := s) (u := 1 + n0 + 2) (n := 8) (by omega)
  obtain ⟨e1, e2, e3⟩ := takes (s := s) (u := 1 + n0 + 2 + 8) (n := 4) (by omega)
  obtain ⟨f1, f2, f3⟩ := takes (s := s) (u := 1 + n0 + 2 + 8 + 4) (n := 32) (by omega)
  have a2' : takeU s 0 1 = 1 := a2
  unfold readA
  rw [h0, Int.toNat_natCast, a2', b2, c2, d2, e2, f2, a3, b3, c3, d3, e3, f3, b1, f1]
  rw [if_neg (by decide)]
  rfl
theorem read_short {s : ByteArray} {n0 : Nat} (h0 : num s 0 1 = (n0 : Int)) (h1 : ¬ 47 + n0 ≤ s.size) : readA s = errA := by
  unfold readA
  rw [h0, Int.toNat_natCast]
  refine if_pos ?_
  cases ha : takeB s 0 1 with
  | true => simp
  | false =>
    obtain ⟨a1, a2⟩ := takeU_eq ha
    rw [a2]
    cases hb : takeB s (0 + 1) n0 with
    | true => simp
    | false =>
      obtain ⟨b1, b2⟩ := takeU_eq hb
      rw [b2]
      cases hc : takeB s (0 + 1 + n0) 2 with
      | true => simp
      | false =>
        obtain ⟨c1, c2⟩ := takeU_eq hc
        rw [c2]
        cases hd : takeB s (0 + 1 + n0 + 2) 8 with
        | true => simp
        | false =>
          obtain ⟨d1, d2⟩ := takeU_eq hd
          rw [d2]
          cases he : takeB s (0 + 1 + n0 + 2 + 8) 4 with
          | true => simp
          | false =>
            obtain ⟨e1, e2⟩ := takeU_eq he
            rw [e2]
            cases hf : takeB s (0 + 1 + n0 + 2 + 8 + 4) 32 with
            | true => simp
            | false =>
              obtain ⟨f1, f2⟩ := takeU_eq hf
              omega
/-! ### Numbers and their bytes -/
theorem dg_by : ∀ (d : Nat) (x : Int), IsBytes (dg x d)
  | 0, _ => fun v hv => by cases hv
  | d + 1, x => by
    intro v hv
    rw [dg, List.mem_append, List.mem_singleton] at hv
    rcases hv with hv | rfl
    · exact dg_by d _ v hv
    · omega
theorem bytes_numS (n : Int) (m : Nat) : bytesOf (numS n m) = dg n m := by
  have e : numS n m = strOfNums (dg n m) := by unfold numS strOfNums; rw [top_dg]
  rw [e, bytesOf_str (dg_by m n)]
theorem be_dg : ∀ (d : Nat) (x : Int), 0 ≤ x → x < (256 : Int) ^ d → beL (dg x d) = x
  | 0, x, h0, h1 => by
    have : x = 0 := by simp at h1; omega
    subst this
    rfl
  | d + 1, x, h0, h1 => by
    rw [dg, be_snoc, be_dg d (x / 256) (by omega) (by rw [Int.pow_succ] at h1; exact Int.ediv_lt_of_lt_mul (by decide) h1)]
    omega
theorem snoc_ind {P : List Int → Prop} (h0 : P []) (h1 : ∀ l x, P l → P (l ++ [x])) : ∀ l, P l := by
  have h : ∀ l : List Int, P l.reverse := by
    intro l
    induction l with
    | nil => exact h0
    | cons x l ih => rw [List.reverse_cons]; exact h1 _ _ ih
  intro l
  have := h l.reverse
  rwa [List.reverse_reverse] at this
theorem be_pos : ∀ (l : List Int), IsBytes l → 0 ≤ beL l ∧ beL l < (256 : Int) ^ l.length := by
  refine snoc_ind (fun _ => ⟨by decide, by decide⟩) ?_
  · intro l x ih h
    obtain ⟨i1, i2⟩ := ih (fun v hv => h v (List.mem_append_left _ hv))
    have hx := h x (List.mem_append_right _ (List.mem_singleton_self x))
    rw [be_snoc, List.length_append, List.length_singleton, Int.pow_succ]
    generalize (256 : Int) ^ l.length = P at i2
    omega
theorem dg_be : ∀ (l : List Int), IsBytes l → dg (beL l) l.length = l := by
  refine snoc_ind (fun _ => rfl) ?_
  · intro l x ih h
    have hl : IsBytes l := fun v hv => h v (List.mem_append_left _ hv)
    have hx := h x (List.mem_append_right _ (List.mem_singleton_self x))
    have e1 : (beL l * 256 + x) / 256 = beL l := by omega
    have e2 : (beL l * 256 + x) % 256 = x := by omega
    rw [be_snoc, List.length_append, List.length_singleton, dg, e1, e2, ih hl]
theorem wrap_id64 {x : Int} (h0 : 0 ≤ x) (h1 : x ≤ 9223372036854775807) : IntKind.i64.wrap x = x := by rw [IntKind.wrap_i64]; omega
/-- What is read of a number's bytes is the number. -/
theorem num_numS {s : ByteArray} {u m : Nat} {v : Int} (h : u + m ≤ s.size) (he : s.extract u (u + m) = numS v m) (h0 : 0 ≤ v) (h1 : v < (256 : Int) ^ m) (h2 : v ≤ 9223372036854775807) : num s u m = v := by
  unfold num
  rw [(takes h).1, he, bytes_numS, be_dg m v h0 h1, wrap_id64 h0 h2]
/-- The bytes of what is read, if it is no number below 0. -/
theorem numS_num {s : ByteArray} {u m : Nat} (h : u + m ≤ s.size) (hm : m ≤ 8) (h0 : 0 ≤ num s u m) : numS (num s u m) m = s.extract u (u + m) := by
  unfold num at h0 ⊢
  rw [(takes h).1] at h0 ⊢
  have hl : (bytesOf (s.extract u (u + m))).length = m := by rw [Go.Proofs.YtbeibmdccjgcmaaDoorW.PrintWords.bytesOf_length, size_ext _ _ _ h]; omega
  have hb := isBytes_of (s.extract u (u + m))
  obtain ⟨p1, p2⟩ := be_pos _ hb
  have p3 : beL (bytesOf (s.extract u (u + m))) < 18446744073709551616 := by
    refine Int.lt_of_lt_of_le p2 ?_
    rw [hl]
    have h8 : (256 : Int) ^ m ≤ (256 : Int) ^ 8 := by
      rcases (show m = 0 ∨ m = 1 ∨ m = 2 ∨ m = 3 ∨ m = 4 ∨ m = 5 ∨ m = 6 ∨ m = 7 ∨ m = 8 by omega) with e | e | e | e | e | e | e | e | e <;> subst e <;> decide
    exact h8
  have e : IntKind.i64.wrap (beL (bytesOf (s.extract u (u + m)))) = beL (bytesOf (s.extract u (u + m))) := by
    rw [IntKind.wrap_i64] at h0 ⊢
    omega
  rw [e]
  apply bytesOf_inj
  rw [bytes_numS]
  have := dg_be _ hb
  rw [hl] at this
  exact this
theorem ext_at (a b c : ByteArray) (u n : Nat) (ha : a.size = u) (hb : b.size = n) : (a ++ (b ++ c)).extract u (u + n) = b := by
  subst ha
  subst hb
  apply bytesOf_inj
  rw [bytesOf_extract, bytesOf_append, bytesOf_append]
  have l1 : (bytesOf a).length = a.size := Go.Proofs.YtbeibmdccjgcmaaDoorW.PrintWords.bytesOf_length a
  have l2 : (bytesOf b).length = b.size := Go.Proofs.YtbeibmdccjgcmaaDoorW.PrintWords.bytesOf_length b
  rw [List.take_append, List.drop_append, ← l1, List.take_of_length_le (by omega), List.drop_length, List.nil_append, Nat.sub_self, List.drop_zero, Nat.add_sub_cancel_left, ← l2, List.take_left']
  rfl
theorem make_size (nm : ByteArray) (mo ti sz : Int) (su : ByteArray) (h : su.size = 32) : (makeB nm mo ti sz su).size = 1 + nm.size + 2 + 8 + 4 + 32 := by
  unfold makeB
  rw [ByteArray.size_append, ByteArray.size_append, ByteArray.size_append, ByteArray.size_append, ByteArray.size_append, numS_size, numS_size, numS_size, numS_size, h]
/-- Read of Make is what was said. -/
theorem read_make (nm : ByteArray) (mo ti sz : Int) (su t : ByteArray) (hN : nameL nm.data.toList = true) (hR : restB mo ti sz su = true) : readA (makeB nm mo ti sz su ++ t) = ⟨nm, mo, ti, sz, su, (makeB nm mo ti sz su).size, 0⟩ := by
  have hl := name_len hN
  obtain ⟨r1, r2, r3, r4, r5, r6, r7⟩ := rest_iff hR
  have hms := make_size nm mo ti sz su r7
  obtain ⟨S, hS⟩ : ∃ S, S = makeB nm mo ti sz su ++ t := ⟨_, rfl⟩
  have hSs : S.size = 47 + nm.size + t.size := by rw [hS, ByteArray.size_append, hms]; omega
  have e0 : S = ⟨#[]⟩ ++ (numS (nm.size : Int) 1 ++ (nm ++ (numS mo 2 ++ (numS ti 8 ++ (numS sz 4 ++ (su ++ t)))))) := by
    rw [hS, nil_app]; unfold makeB; simp only [app_assoc]
  have e1 : S = numS (nm.size : Int) 1 ++ (nm ++ (numS mo 2 ++ (numS ti 8 ++ (numS sz 4 ++ (su ++ t))))) := by
    rw [hS]; unfold makeB; simp only [app_assoc]
  have e2 : S = (numS (nm.size : Int) 1 ++ nm) ++ (numS mo 2 ++ (numS ti 8 ++ (numS sz 4 ++ (su ++ t)))) := by
    rw [hS]; unfold makeB; simp only [app_assoc]
  have e3 : S = ((numS (nm.size : Int) 1 ++ nm) ++ numS mo 2) ++ (numS ti 8 ++ (numS sz 4 ++ (su ++ t))) := by
    rw [hS]; unfold makeB; simp only [app_assoc]
  have e4 : S = (((numS (nm.size : Int) 1 ++ nm) ++ numS mo 2) ++ numS ti 8) ++ (numS sz 4 ++ (su ++ t)) := by
    rw [hS]; unfold makeB; simp only [app_assoc]
  have e5 : S = ((((numS (nm.size : Int) 1 ++ nm) ++ numS mo 2) ++ numS ti 8) ++ numS sz 4) ++ (su ++ t) := by
    rw [hS]; unfold makeB; simp only [app_assoc]
  have x0 : S.extract 0 (0 + 1) = numS (nm.size : Int) 1 := by rw [e0]; exact ext_at _ _ _ 0 1 rfl (numS_size _ _)
  have x1 : S.extract 1 (1 + nm.size) = nm := by rw [e1]; exact ext_at _ _ _ _ _ (numS_size _ _) rfl
  have x2 : S.extract (1 + nm.size) (1 + nm.size + 2) = numS mo 2 := by rw [e2]; exact ext_at _ _ _ _ _ (by rw [ByteArray.size_append, numS_size]) (numS_size _ _)
  have x3 : S.extract (1 + nm.size + 2) (1 + nm.size + 2 + 8) = numS ti 8 := by rw [e3]; exact ext_at _ _ _ _ _ (by rw [ByteArray.size_append, ByteArray.size_append, numS_size, numS_size]) (numS_size _ _)
  have x4 : S.extract (1 + nm.size + 2 + 8) (1 + nm.size + 2 + 8 + 4) = numS sz 4 := by rw [e4]; exact ext_at _ _ _ _ _ (by rw [ByteArray.size_append, ByteArray.size_append, ByteArray.size_append, numS_size, numS_size, numS_size]) (numS_size _ _)
  have x5 : S.extract (1 + nm.size + 2 + 8 + 4) (1 + nm.size + 2 + 8 + 4 + 32) = su := by rw [e5]; exact ext_at _ _ _ _ _ (by rw [ByteArray.size_append, ByteArray.size_append, ByteArray.size_append, ByteArray.size_append, numS_size, numS_size, numS_size, numS_size]) r7
  have n0 : num S 0 1 = (nm.size : Int) := num_numS (by omega) x0 (by omega) (by show (nm.size : Int) < 256; omega) (by omega)
  have n2 : num S (1 + nm.size) 2 = mo := num_numS (by omega) x2 r1 (by show mo < 65536; omega) (by omega)
  have n3 : num S (1 + nm.size + 2) 8 = ti := num_numS (by omega) x3 r3 (by show ti < 18446744073709551616; omega) (by omega)
  have n4 : num S (1 + nm.size + 2 + 8) 4 = sz := num_numS (by omega) x4 r5 (by show sz < 4294967296; omega) (by omega)
  rw [← hS, read_fit n0 (by omega), x1, n2, n3, n4, x5, if_pos (by unfold mayB; rw [hN, hR]; rfl), hms]
/-- What Read tells may be, and Make of it are the bytes that were used; or it is refused. -/
theorem read_cases (s : ByteArray) : readA s = errA ∨ ((readA s).e = 0 ∧ mayB (readA s).nm (readA s).mo (readA s).ti (readA s).sz (readA s).su = true ∧ (readA s).used = 47 + (readA s).nm.size ∧ (readA s).used ≤ s.size ∧ makeB (readA s).nm (readA s).mo (readA s).ti (readA s).sz (readA s).su = s.extract 0 (readA s).used) := by
  obtain ⟨n0, hn0, hn1⟩ := num_one s 0
  by_cases h1 : 47 + n0 ≤ s.size
  · have h := read_fit hn0 h1
    by_cases hM : mayB (s.extract 1 (1 + n0)) (num s (1 + n0) 2) (num s (1 + n0 + 2) 8) (num s (1 + n0 + 2 + 8) 4) (s.extract (1 + n0 + 2 + 8 + 4) (1 + n0 + 2 + 8 + 4 + 32)) = true
    · rw [if_pos hM] at h
      refine .inr ?_
      rw [h]
      have hnm : (s.extract 1 (1 + n0)).size = n0 := by rw [size_ext _ _ _ (by omega)]; omega
      refine ⟨rfl, hM, by show 1 + n0 + 2 + 8 + 4 + 32 = 47 + (s.extract 1 (1 + n0)).size; rw [hnm]; omega, by show 1 + n0 + 2 + 8 + 4 + 32 ≤ s.size; omega, ?_⟩
      unfold mayB at hM
      rw [Bool.and_eq_true] at hM
      obtain ⟨r1, r2, r3, r4, r5, r6, r7⟩ := rest_iff hM.2
      show makeB (s.extract 1 (1 + n0)) (num s (1 + n0) 2) (num s (1 + n0 + 2) 8) (num s (1 + n0 + 2 + 8) 4) (s.extract (1 + n0 + 2 + 8 + 4) (1 + n0 + 2 + 8 + 4 + 32)) = s.extract 0 (1 + n0 + 2 + 8 + 4 + 32)
      unfold makeB
      rw [hnm, ← hn0, numS_num (by omega) (by decide) (by rw [hn0]; omega), numS_num (by omega) (by decide) r1, numS_num (by omega) (by decide) r3, numS_num (by omega) (by decide) r5]
      rw [show (0 : Nat) + 1 = 1 from rfl]
      rw [← ByteArray.extract_eq_extract_append_extract 1 (by omega) (by omega), ← ByteArray.extract_eq_extract_append_extract (1 + n0) (by omega) (by omega), ← ByteArray.extract_eq_extract_append_extract (1 + n0 + 2) (by omega) (by omega), ← ByteArray.extract_eq_extract_append_extract (1 + n0 + 2 + 8) (by omega) (by omega), ← ByteArray.extract_eq_extract_append_extract (1 + n0 + 2 + 8 + 4) (by omega) (by omega)]
    · rw [if_neg hM] at h
      exact .inl h
  · exact .inl (read_short hn0 h1)
end Go.Proofs.YtbeibmdccjgcmaaDoor.Me
