/- Read of Make, with anything behind it, is what was said; Make of Read the bytes that were used; of two names that may be, with a slash between, the whole may be, if it is not too long; what begins or ends by a slash may not be: for all that the statement takes in. -/
import Derived.Test.YteplphpbpaojjaaDoorMetaPure
import Derived.Test.YteplphpbpaojjaaDoorMetaSplit
import Derived.Test.YteplphpbpaojjaaDoorPMax40
import Derived.Test.YteplphpbpaojjaaDoorPMax38
namespace Go.Proofs.YteplphpbpaojjaaDoor.Me
open Go.RowKit Go.Lib Go.Proofs.YteplphpbpaojjaaDoorW.PrintWords Go.Proofs.YteplphpbpaojjaaDoorW.PrintLast Go.Proofs.YteplphpbpaojjaaDoorW.PrintMore Go.Proofs.YteplphpbpaojjaaDoor.PMa Go.Proofs.YteplphpbpaojjaaDoor.Pb
set_option linter.unusedVariables false
set_option linter.unusedSimpArgs false
def errA : Ans := ⟨⟨#[]⟩, 0, 0, 0, ⟨#[]⟩, 0, 4⟩
theorem takes {s : ByteArray} {u n : Nat} (h : u + n ≤ s.size) : takeT s u n = s.extract u (u + n) ∧ takeU s u n = u + n ∧ takeB s u n = false :=
  ⟨if_pos h, if_pos h, decide_eq_false (fun k => k h)⟩
theorem takeU_eq {s : ByteArray} {u n : Nat} (h : takeB s u n = false) : u + n ≤ s.size ∧ takeU s u n = u + n := by
  have h1 : u + n ≤ s.size := by
    have := of_decide_eq_false h
    omega
  exact ⟨h1, if_pos h1⟩
theorem read_fit {s : ByteArray} {n0 : Nat} (h0 : num s 0 1 = (n0 : Int)) (h1 : 47 + n0 ≤ s.size) :
    readA s = if mayB (s.extract 1 (1 + n0)) (num s (1 + n0) 2) (num s (1 + n0 + 2) 8) (num s (1 + n0 + 2 + 8) 4) (s.extract (1 + n0 + 2 + 8 + 4) (1 + n0 + 2 + 8 + 4 + 32)) = true then
      ⟨s.extract 1 (1 + n0), num s (1 + n0) 2, num s (1 + n0 + 2) 8, num s (1 + n0 + 2 + 8) 4, s.extract (1 + n0 + 2 + 8 + 4) (1 + n0 + 2 + 8 + 4 + 32), 1 + n0 + 2 + 8 + 4 + 32, 0⟩ else errA := by
  obtain ⟨a1, a2, a3⟩ := takes (s := s) (u := 0) (n := 1) (by omega)
  obtain ⟨b1, b2, b3⟩ := takes (s := s) (u := 1) (n := n0) (by omega)
  obtain ⟨c1, c2, c3⟩ := takes (s := s) (u := 1 + n0) (n := 2) (by omega)
  obtain ⟨d1, d2, d3⟩ := takes (s := s) (u := 1 + n0 + 2) (n := 8) (by omega)
  obtain ⟨e1, e2, e3⟩ := takes (s := s) (u := 1 + n0 + 2 + 8) (n := 4) (by omega)
  obtain ⟨f1, f2, f3⟩ := takes (s := s) (u := 1 + n0 + 2 + 8 + 4) (n := 32) (by omega)
  have a2' : takeU s 0 1 = 1 := a2
  unfold readA
  rw [h0, Int.toNat_natCast, a2', b2, c2, d2, e2, f2, a3, b3, c3, d3, e3, f3, b1, f1]
  rw [if_neg (by decide)]
  rfl
theorem read_short {s : ByteArray} {n0 : Nat} (h0 : num s 0 1 = (n0 : Int)) (h1 : ¬ 47 + n0 ≤ s.size) : readA s = errA := by
  unfold readA
  rw [h0, Int.toNat_natCast]
  refine if_pos ?_
  cases ha : takeB s 0 1 with
  | true => simp
  | false =>
    obtain ⟨a1, a2⟩ := takeU_eq ha
    rw [a2]
    cases hb : takeB s (0 + 1) n0 with
    | true => simp
    | false =>
      obtain ⟨b1, b2⟩ := takeU_eq hb
      rw [b2]
      cases hc : takeB s (0 + 1 + n0) 2 with
      | true => simp
      | false =>
        obtain ⟨c1, c2⟩ := takeU_eq hc
        rw [c2]
        cases hd : takeB s (0 + 1 + n0 + 2) 8 with
        | true => simp
        | false =>
          obtain ⟨d1, d2⟩ := takeU_eq hd
          rw [d2]
          cases he : takeB s (0 + 1 + n0 + 2 + 8) 4 with
          | true => simp
          | false =>
            obtain ⟨e1, e2⟩ := takeU_eq he
            rw [e2]
            cases hf : takeB s (0 + 1 + n0 + 2 + 8 + 4) 32 with
            | true => simp
            | false =>
              obtain ⟨f1, f2⟩ := takeU_eq hf
              omega
/-! ### Numbers and their bytes -/
theorem dg_by : ∀ (d : Nat) (x : Int), IsBytes (dg x d)
  | 0, _ => fun v hv => by cases hv
  | d + 1, x => by
    intro v hv
    rw [dg, List.mem_append, List.mem_singleton] at hv
    rcases hv with hv | rfl
    · exact dg_by d _ v hv
    · omega
theorem bytes_numS (n : Int) (m : Nat) : bytesOf (numS n m) = dg n m := by
  have e : numS n m = strOfNums (dg n m) := by unfold numS strOfNums; rw [top_dg]
  rw [e, bytesOf_str (dg_by m n)]
theorem be_dg : ∀ (d : Nat) (x : Int), 0 ≤ x → x < (256 : Int) ^ d → beL (dg x d) = x
  | 0, x, h0, h1 => by
    have : x = 0 := by simp at h1; omega
    subst this
    rfl
  | d + 1, x, h0, h1 => by
    rw [dg, be_snoc, be_dg d (x / 256) (by omega) (by rw [Int.pow_succ] at h1; exact Int.ediv_lt_of_lt_mul (by decide) h1)]
    omega
theorem snoc_ind {P : List Int → Prop} (h0 : P []) (h1 : ∀ l x, P l → P (l ++ [x])) : ∀ l, P l := by
  have h : ∀ l : List Int, P l.reverse := by
    intro l
    induction l with
    | nil => exact h0
    | cons x l ih => rw [List.reverse_cons]; exact h1 _ _ ih
  intro l
  have := h l.reverse
  rwa [List.reverse_reverse] at this
theorem be_pos : ∀ (l : List Int), IsBytes l → 0 ≤ beL l ∧ beL l < (256 : Int) ^ l.length := by
  refine snoc_ind (fun _ => ⟨by decide, by decide⟩) ?_
  · intro l x ih h
    obtain ⟨i1, i2⟩ := ih (fun v hv => h v (List.mem_append_left _ hv))
    have hx := h x (List.mem_append_right _ (List.mem_singleton_self x))
    rw [be_snoc, List.length_append, List.length_singleton, Int.pow_succ]
    generalize (256 : Int) ^ l.length = P at i2
    omega
theorem dg_be : ∀ (l : List Int), IsBytes l → dg (beL l) l.length = l := by
  refine snoc_ind (fun _ => rfl) ?_
  · intro l x ih h
    have hl : IsBytes l := fun v hv => h v (List.mem_append_left _ hv)
    have hx := h x (List.mem_append_right _ (List.mem_singleton_self x))
    have e1 : (beL l * 256 + x) / 256 = beL l := by omega
    have e2 : (beL l * 256 + x) % 256 = x := by omega
    rw [be_snoc, List.length_append, List.length_singleton, dg, e1, e2, ih hl]
theorem wrap_id64 {x : Int} (h0 : 0 ≤ x) (h1 : x ≤ 9223372036854775807) : IntKind.i64.wrap x = x := by rw [IntKind.wrap_i64]; omega
/-- What is read of a number's bytes is the number. -/
theorem num_numS {s : ByteArray} {u m : Nat} {v : Int} (h : u + m ≤ s.size) (he : s.extract u (u + m) = numS v m) (h0 : 0 ≤ v) (h1 : v < (256 : Int) ^ m) (h2 : v ≤ 9223372036854775807) : num s u m = v := by
  unfold num
  rw [(takes h).1, he, bytes_numS, be_dg m v h0 h1, wrap_id64 h0 h2]
/-- The bytes of what is read, if it is no number below 0. -/
theorem numS_num {s : ByteArray} {u m : Nat} (h : u + m ≤ s.size) (hm : m ≤ 8) (h0 : 0 ≤ num s u m) : numS (num s u m) m = s.extract u (u + m) := by
  unfold num at h0 ⊢
  rw [(takes h).1] at h0 ⊢
  have hl : (bytesOf (s.extract u (u + m))).length = m := by rw [Go.Proofs.YteplphpbpaojjaaDoorW.PrintWords.bytesOf_length, size_ext _ _ _ h]; omega
  have hb := isBytes_of (s.extract u (u + m))
  obtain ⟨p1, p2⟩ := be_pos _ hb
  have p3 : beL (bytesOf (s.extract u (u + m))) < 18446744073709551616 := by
    refine Int.lt_of_lt_of_le p2 ?_
    rw [hl]
    have h8 : (256 : Int) ^ m ≤ (256 : Int) ^ 8 := by
      rcases (show m = 0 ∨ m = 1 ∨ m = 2 ∨ m = 3 ∨ m = 4 ∨ m = 5 ∨ m = 6 ∨ m = 7 ∨ m = 8 by omega) with e | e | e | e | e | e | e | e | e <;> subst e <;> decide
    exact h8
  have e : IntKind.i64.wrap (beL (bytesOf (s.extract u (u + m)))) = beL (bytesOf (s.extract u (u + m))) := by
    rw [IntKind.wrap_i64] at h0 ⊢
    omega
  rw [e]
  apply bytesOf_inj
  rw [bytes_numS]
  have := dg_be _ hb
  rw [hl] at this
  exact this
theorem ext_at (a b c : ByteArray) (u n : Nat) (ha : a.size = u) (hb : b.size = n) : (a ++ (b ++ c)).extract u (u + n) = b := by
  subst ha
  subst hb
  apply bytesOf_inj
  rw [bytesOf_extract, bytesOf_append, bytesOf_append]
  have l1 : (bytesOf a).length = a.size := Go.Proofs.YteplphpbpaojjaaDoorW.PrintWords.bytesOf_length a
  have l2 : (bytesOf b).length = b.size := Go.Proofs.YteplphpbpaojjaaDoorW.PrintWords.bytesOf_length b
  rw [List.take_append, List.drop_append, ← l1, List.take_of_length_le (by omega), List.drop_length, List.nil_append, Nat.sub_self, List.drop_zero, Nat.add_sub_cancel_left, ← l2, List.take_left']
  rfl
theorem make_size (nm : ByteArray) (mo ti sz : Int) (su : ByteArray) (h : su.size = 32) : (makeB nm mo ti sz su).size = 1 + nm.size + 2 + 8 + 4 + 32 := by
  unfold makeB
  rw [ByteArray.size_append, ByteArray.size_append, ByteArray.size_append, ByteArray.size_append, ByteArray.size_append, numS_size, numS_size, numS_size, numS_size, h]
/-- Read of Make is what was said. -/
theorem read_make (nm : ByteArray) (mo ti sz : Int) (su t : ByteArray) (hN : nameL nm.data.toList = true) (hR : restB mo ti sz su = true) : readA (makeB nm mo ti sz su ++ t) = ⟨nm, mo, ti, sz, su, (makeB nm mo ti sz su).size, 0⟩ := by
  have hl := name_len hN
  obtain ⟨r1, r2, r3, r4, r5, r6, r7⟩ := rest_iff hR
  have hms := make_size nm mo ti sz su r7
  obtain ⟨S, hS⟩ : ∃ S, S = makeB nm mo ti sz su ++ t := ⟨_, rfl⟩
  have hSs : S.size = 47 + nm.size + t.size := by rw [hS, ByteArray.size_append, hms]; omega
  have e0 : S = ⟨#[]⟩ ++ (numS (nm.size : Int) 1 ++ (nm ++ (numS mo 2 ++ (numS ti 8 ++ (numS sz 4 ++ (su ++ t)))))) := by
    rw [hS, nil_app]; unfold makeB; simp only [app_assoc]
  have e1 : S = numS (nm.size : Int) 1 ++ (nm ++ (numS mo 2 ++ (numS ti 8 ++ (numS sz 4 ++ (su ++ t))))) := by
    rw [hS]; unfold makeB; simp only [app_assoc]
  have e2 : S = (numS (nm.size : Int) 1 ++ nm) ++ (numS mo 2 ++ (numS ti 8 ++ (numS sz 4 ++ (su ++ t)))) := by
    rw [hS]; unfold makeB; simp only [app_assoc]
  have e3 : S = ((numS (nm.size : Int) 1 ++ nm) ++ numS mo 2) ++ (numS ti 8 ++ (numS sz 4 ++ (su ++ t))) := by
    rw [hS]; unfold makeB; simp only [app_assoc]
  have e4 : S = (((numS (nm.size : Int) 1 ++ nm) ++ numS mo 2) ++ numS ti 8) ++ (numS sz 4 ++ (su ++ t)) := by
    rw [hS]; unfold makeB; simp only [app_assoc]
  have e5 : S = ((((numS (nm.size : Int) 1 ++ nm) ++ numS mo 2) ++ numS ti 8) ++ numS sz 4) ++ (su ++ t) := by
    rw [hS]; unfold makeB; simp only [app_assoc]
  have x0 : S.extract 0 (0 + 1) = numS (nm.size : Int) 1 := by rw [e0]; exact ext_at _ _ _ 0 1 rfl (numS_size _ _)
  have x1 : S.extract 1 (1 + nm.size) = nm := by rw [e1]; exact ext_at _ _ _ _ _ (numS_size _ _) rfl
  have x2 : S.extract (1 + nm.size) (1 + nm.size + 2) = numS mo 2 := by rw [e2]; exact ext_at _ _ _ _ _ (by rw [ByteArray.size_append, numS_size]) (numS_size _ _)
  have x3 : S.extract (1 + nm.size + 2) (1 + nm.size + 2 + 8) = numS ti 8 := by rw [e3]; exact ext_at _ _ _ _ _ (by rw [ByteArray.size_append, ByteArray.size_append, numS_size, numS_size]) (numS_size _ _)
  have x4 : S.extract (1 + nm.size + 2 + 8) (1 + nm.size + 2 + 8 + 4) = numS sz 4 := by rw [e4]; exact ext_at _ _ _ _ _ (by rw [ByteArray.size_append, ByteArray.size_append, ByteArray.size_append, numS_size, numS_size, numS_size]) (numS_size _ _)
  have x5 : S.extract (1 + nm.size + 2 + 8 + 4) (1 + nm.size + 2 + 8 + 4 + 32) = su := by rw [e5]; exact ext_at _ _ _ _ _ (by rw [ByteArray.size_append, ByteArray.size_append, ByteArray.size_append, ByteArray.size_append, numS_size, numS_size, numS_size, numS_size]) r7
  have n0 : num S 0 1 = (nm.size : Int) := num_numS (by omega) x0 (by omega) (by show (nm.size : Int) < 256; omega) (by omega)
  have n2 : num S (1 + nm.size) 2 = mo := num_numS (by omega) x2 r1 (by show mo < 65536; omega) (by omega)
  have n3 : num S (1 + nm.size + 2) 8 = ti := num_numS (by omega) x3 r3 (by show ti < 18446744073709551616; omega) (by omega)
  have n4 : num S (1 + nm.size + 2 + 8) 4 = sz := num_numS (by omega) x4 r5 (by show sz < 4294967296; omega) (by omega)
  rw [← hS, read_fit n0 (by omega), x1, n2, n3, n4, x5, if_pos (by unfold mayB; rw [hN, hR]; rfl), hms]
/-- What Read tells may be, and Make of it are the bytes that were used; or it is refused. -/
theorem read_cases (s : ByteArray) : readA s = errA ∨ ((readA s).e = 0 ∧ mayB (readA s).nm (readA s).mo (readA s).ti (readA s).sz (readA s).su = true ∧ (readA s).used = 47 + (readA s).nm.size ∧ (readA s).used ≤ s.size ∧ makeB (readA s).nm (readA s).mo (readA s).ti (readA s).sz (readA s).su = s.extract 0 (readA s).used) := by
  obtain ⟨n0, hn0, hn1⟩ := num_one s 0
  by_cases h1 : 47 + n0 ≤ s.size
  · have h := read_fit hn0 h1
    by_cases hM : mayB (s.extract 1 (1 + n0)) (num s (1 + n0) 2) (num s (1 + n0 + 2) 8) (num s (1 + n0 + 2 + 8) 4) (s.extract (1 + n0 + 2 + 8 + 4) (1 + n0 + 2 + 8 + 4 + 32)) = true
    · rw [if_pos hM] at h
      refine .inr ?_
      rw [h]
      have hnm : (s.extract 1 (1 + n0)).size = n0 := by rw [size_ext _ _ _ (by omega)]; omega
      refine ⟨rfl, hM, by show 1 + n0 + 2 + 8 + 4 + 32 = 47 + (s.extract 1 (1 + n0)).size; rw [hnm]; omega, by show 1 + n0 + 2 + 8 + 4 + 32 ≤ s.size; omega, ?_⟩
      unfold mayB at hM
      rw [Bool.and_eq_true] at hM
      obtain ⟨r1, r2, r3, r4, r5, r6, r7⟩ := rest_iff hM.2
      show makeB (s.extract 1 (1 + n0)) (num s (1 + n0) 2) (num s (1 + n0 + 2) 8) (num s (1 + n0 + 2 + 8) 4) (s.extract (1 + n0 + 2 + 8 + 4) (1 + n0 + 2 + 8 + 4 + 32)) = s.extract 0 (1 + n0 + 2 + 8 + 4 + 32)
      unfold makeB
      rw [hnm, ← hn0, numS_num (by omega) (by decide) (by rw [hn0]; omega), numS_num (by omega) (by decide) r1, numS_num (by omega) (by decide) r3, numS_num (by omega) (by decide) r5]
      rw [show (0 : Nat) + 1 = 1 from rfl]
      rw [← ByteArray.extract_eq_extract_append_extract 1 (by omega) (by omega), ← ByteArray.extract_eq_extract_append_extract (1 + n0) (by omega) (by omega), ← ByteArray.extract_eq_extract_append_extract (1 + n0 + 2) (by omega) (by omega), ← ByteArray.extract_eq_extract_append_extract (1 + n0 + 2 + 8) (by omega) (by omega), ← ByteArray.extract_eq_extract_append_extract (1 + n0 + 2 + 8 + 4) (by omega) (by omega)]
    · rw [if_neg hM] at h
      exact .inl h
  · exact .inl (read_short hn0 h1)
end Go.Proofs.YteplphpbpaojjaaDoor.Me
namespace Go.Proofs.YteplphpbpaojjaaDoor.Me
open Go.RowKit Go.Lib Go.Proofs.YteplphpbpaojjaaDoorW.PrintWords Go.Proofs.YteplphpbpaojjaaDoorW.PrintLast Go.Proofs.YteplphpbpaojjaaDoorW.PrintMore Go.Proofs.YteplphpbpaojjaaDoor.PMa Go.Proofs.YteplphpbpaojjaaDoor.Pb
set_option linter.unusedVariables false
set_option linter.unusedSimpArgs false
set_option maxRecDepth 100000 in
theorem works_at : hamperlaw19_works.f 60 = some true := by decide +kernel
theorem works_f (k : Nat) (h : 60 ≤ k) : hamperlaw19_works.f k = some true := at_rounds hamperlaw19_works.mono h works_at
theorem readM_f (s : ByteArray) (h : s.size ≤ 1000000000000000) : meta_Read.f s = some ((readA s).nm, (readA s).mo, (readA s).ti, (readA s).sz, (readA s).su, ((readA s).used : Int), (readA s).e) := if_pos h
theorem slashS : (⟨#[47]⟩ : ByteArray).data.toList = [47] := rfl
theorem back_j3 (k : Nat) (a b : ByteArray) (ha : a.size ≤ 140737488351232) (hb : b.size ≤ 140737488351232) : hamperlaw19_MetaBack.j3 (k + 1) a b false = some true := by
  rw [hamperlaw19_MetaBack.j3, if_neg (by decide)]
  refine bind_eq (name_f a) ?_
  have h1 : (⟨#[47]⟩ : ByteArray).size = 1 := rfl
  cases hA : nameL a.data.toList with
  | false => rw [if_neg (by decide)]
  | true =>
    rw [if_pos rfl]
    refine bind_eq (name_f b) ?_
    cases hB : nameL b.data.toList with
    | false => rw [if_neg (by decide)]
    | true =>
      rw [if_pos rfl, if_pos (by omega), if_pos (by rw [ByteArray.size_append, h1]; omega)]
      refine bind_eq (name_f _) ?_
      have e : ((a ++ (⟨#[47]⟩ : ByteArray)) ++ b).data.toList = a.data.toList ++ 47 :: b.data.toList := by
        rw [ByteArray.data_append, ByteArray.data_append, Array.toList_append, Array.toList_append, slashS, List.append_assoc]
        rfl
      have l1 : a.data.toList.length = a.size := rfl
      have l2 : b.data.toList.length = b.size := rfl
      rw [e, name_two hA hB, l1, l2]
      have w1 : wrap64 ((a.size : Int) + 1) = (a.size : Int) + 1 := wrap_id (by omega) (by omega)
      have w2 : wrap64 ((a.size : Int) + 1 + (b.size : Int)) = (a.size : Int) + 1 + (b.size : Int) := wrap_id (by omega) (by omega)
      rw [w1, w2]
      congr 1
      rw [beq_iff_eq, decide_eq_decide]
      omega
theorem back_j2 (k : Nat) (a b : ByteArray) (ha : a.size ≤ 140737488351232) (hb : b.size ≤ 140737488351232) : hamperlaw19_MetaBack.j2 (k + 2) a b = some true := by
  have h1 : (⟨#[47]⟩ : ByteArray).size = 1 := rfl
  rw [hamperlaw19_MetaBack.j2, if_pos (by omega)]
  refine bind_eq (name_f _) ?_
  have e : ((⟨#[47]⟩ : ByteArray) ++ a).data.toList = 47 :: a.data.toList := by
    rw [ByteArray.data_append, Array.toList_append, slashS]
    rfl
  rw [e, name_slash_front, if_neg (by decide), if_pos (by omega)]
  refine bind_eq (name_f _) ?_
  have e2 : (a ++ (⟨#[47]⟩ : ByteArray)).data.toList = a.data.toList ++ [47] := by
    rw [ByteArray.data_append, Array.toList_append, slashS]
  rw [e2, name_slash_end]
  exact back_j3 k a b ha hb
theorem back_j1 (k : Nat) (s a b : ByteArray) (hs : s.size ≤ 140737488351232) (ha : a.size ≤ 140737488351232) (hb : b.size ≤ 140737488351232) : hamperlaw19_MetaBack.j1 (k + 3) s a b = some true := by
  rw [hamperlaw19_MetaBack.j1]
  refine bind_eq (readM_f s (by omega)) ?_
  rcases read_cases s with h | ⟨h0, h1, h2, h3, h4⟩
  · rw [h]
    rw [if_neg (by decide)]
    exact back_j2 k a b ha hb
  · dsimp only
    have hN : nameL (readA s).nm.data.toList = true := by unfold mayB at h1; rw [Bool.and_eq_true] at h1; exact h1.1
    have hR : restB (readA s).mo (readA s).ti (readA s).sz (readA s).su = true := by unfold mayB at h1; rw [Bool.and_eq_true] at h1; exact h1.2
    rw [if_pos h0]
    refine bind_eq (make_f _ _ _ _ _) ?_
    have hmk : makeR (readA s).nm (readA s).mo (readA s).ti (readA s).sz (readA s).su = (s.extract 0 (readA s).used, 0) := by
      unfold makeR
      rw [if_pos hN, if_pos hR, h4]
    rw [hmk, if_pos rfl, if_neg (by omega), if_pos (by omega), if_pos (by omega), Int.toNat_natCast, if_pos rfl]
    refine bind_eq (may_f _ _ _ _ _) ?_
    rw [h1, if_pos rfl]
    exact back_j2 k a b ha hb
theorem back_j0 (k : Nat) (hk : 60 ≤ k) (s a b : ByteArray) (t : Bool) (nm : ByteArray) (mo ti sz : Int) (su : ByteArray) (hs : s.size ≤ 140737488351232) (ha : a.size ≤ 140737488351232) (hb : b.size ≤ 140737488351232) : hamperlaw19_MetaBack.j0 (k + 1) s a b t nm mo ti sz su = some true := by
  rw [hamperlaw19_MetaBack.j0]
  obtain ⟨k, rfl⟩ : ∃ q, k = q + 3 := ⟨k - 3, by omega⟩
  cases t with
  | true =>
    rw [if_pos rfl]
    exact bind_eq (works_f _ (by omega)) rfl
  | false =>
    rw [if_neg (by decide)]
    refine bind_eq (make_f nm mo ti sz su) ?_
    by_cases hN : nameL nm.data.toList = true
    · by_cases hR : restB mo ti sz su = true
      · have hmk : makeR nm mo ti sz su = (makeB nm mo ti sz su, 0) := by unfold makeR; rw [if_pos hN, if_pos hR]
        have hl := name_len hN
        have hms := make_size nm mo ti sz su (rest_iff hR).2.2.2.2.2.2
        rw [hmk, if_pos rfl, if_pos (by rw [hms]; omega)]
        refine bind_eq (readM_f _ (by rw [ByteArray.size_append, hms]; omega)) ?_
        rw [read_make nm mo ti sz su s hN hR]
        dsimp only
        rw [if_pos rfl, if_neg (by simp), if_pos rfl]
        refine bind_eq (may_f _ _ _ _ _) ?_
        have hM : mayB nm mo ti sz su = true := by unfold mayB; rw [hN, hR]; rfl
        rw [hM, if_pos rfl]
        exact back_j1 k s a b hs ha hb
      · have hmk : makeR nm mo ti sz su = (⟨#[]⟩, 4) := by unfold makeR; rw [if_pos hN, if_neg hR]
        rw [hmk, if_neg (by decide)]
        exact back_j1 k s a b hs ha hb
    · have hmk : makeR nm mo ti sz su = (⟨#[]⟩, 60) := by unfold makeR; rw [if_neg hN]
      rw [hmk, if_neg (by decide)]
      exact back_j1 k s a b hs ha hb
theorem MetaBack (nm : ByteArray) (mo ti sz : Int) (su s a b : ByteArray) (hs : s.size ≤ 140737488351232) (ha : a.size ≤ 140737488351232) (hb : b.size ≤ 140737488351232) : hamperlaw19_MetaBack.f 61 nm mo ti sz su s a b = some true := by
  unfold hamperlaw19_MetaBack.f
  refine bind_eq (works_f 61 (by decide)) ?_
  rw [if_pos rfl]
  by_cases h : (a.size : Int) > 5000
  · rw [if_pos h]; exact back_j0 60 (by decide) s a b _ nm mo ti sz su hs ha hb
  · rw [if_neg h]; exact back_j0 60 (by decide) s a b _ nm mo ti sz su hs ha hb
theorem MetaBack_walk (nm : ByteArray) (mo ti sz : Int) (su s a b : ByteArray) (w : World) (_ : nm.size ≤ maxLen) (_ : (Lit.int .i64 mo).wf = true) (_ : (Lit.int .i64 ti).wf = true) (_ : (Lit.int .i64 sz).wf = true) (_ : su.size ≤ maxLen) (hs : s.size ≤ 140737488351232) (ha : a.size ≤ 140737488351232) (hb : b.size ≤ 140737488351232) (hT : Tabs w) :
    Calls Tryd.prog 5 #[.agg #[.string nm, .int .i64 mo, .int .i64 ti, .int .i64 sz, .string su], .string s, .string a, .string b] w fun e w' => e = .returned (.bool true) ∧ Below w.heap.size w w' :=
  hamperlaw19_MetaBack.calls 61 nm mo ti sz su s a b true w hT (MetaBack nm mo ti sz su s a b hs ha hb)
end Go.Proofs.YteplphpbpaojjaaDoor.Me
