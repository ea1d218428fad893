/- What is said of several files, their bytes one behind the other, is read one by one as it was said, and nothing is left: for every list that the statement takes in. -/
import Derived.Test.YteplphpbpaojjaaDoorMetaPure
import Derived.Test.YteplphpbpaojjaaDoorMetaSplit
import Derived.Test.YteplphpbpaojjaaDoorPMax41
import Derived.Test.YteplphpbpaojjaaDoorPMax38
namespace Go.Proofs.YteplphpbpaojjaaDoor.Me
open Go.RowKit Go.Lib Go.Proofs.YteplphpbpaojjaaDoorW.PrintWords Go.Proofs.YteplphpbpaojjaaDoorW.PrintLast Go.Proofs.YteplphpbpaojjaaDoorW.PrintMore Go.Proofs.YteplphpbpaojjaaDoor.PMa Go.Proofs.YteplphpbpaojjaaDoor.Pb
set_option linter.unusedVariables false
set_option linter.unusedSimpArgs false
def errA : Ans := ⟨⟨#[]⟩, 0, 0, 0, ⟨#[]⟩, 0, 4⟩
theorem takes {s : ByteArray} {u n : Nat} (h : u + n ≤ s.size) : takeT s u n = s.extract u (u + n) ∧ takeU s u n = u + n ∧ takeB s u n = false :=
  ⟨if_pos h, if_pos h, decide_eq_false (fun k => k h)⟩
theorem takeU_eq {s : ByteArray} {u n : Nat} (h : takeB s u n = false) : u + n ≤ s.size ∧ takeU s u n = u + n := by
  have h1 : u + n ≤ s.size := by
    have := of_decide_eq_false h
    omega
  exact ⟨h1, if_pos h1⟩
theorem read_fit {s : ByteArray} {n0 : Nat} (h0 : num s 0 1 = (n0 : Int)) (h1 : 47 + n0 ≤ s.size) :
    readA s = if mayB (s.extract 1 (1 + n0)) (num s (1 + n0) 2) (num s (1 + n0 + 2) 8) (num s (1 + n0 + 2 + 8) 4) (s.extract (1 + n0 + 2 + 8 + 4) (1 + n0 + 2 + 8 + 4 + 32)) = true then
      ⟨s.extract 1 (1 + n0), num s (1 + n0) 2, num s (1 + n0 + 2) 8, num s (1 + n0 + 2 + 8) 4, s.extract (1 + n0 + 2 + 8 + 4) (1 + n0 + 2 + 8 + 4 + 32), 1 + n0 + 2 + 8 + 4 + 32, 0⟩ else errA := by
  obtain ⟨a1, a2, a3⟩ := takes (s := s) (u := 0) (n := 1) (by omega)
  obtain ⟨b1, b2, b3⟩ := takes (s := s) (u := 1) (n := n0) (by omega)
  obtain ⟨c1, c2, c3⟩ := takes (s := s) (u := 1 + n0) (n := 2) (by omega)
  obtain ⟨d1, d2, d3⟩ := takes (s := s) (u := 1 + n0 + 2) (n := 8) (by omega)
  obtain ⟨e1, e2, e3⟩ := takes (s := s) (u := 1 + n0 + 2 + 8) (n := 4) (by omega)
  obtain ⟨f1, f2, f3⟩ := takes (s := s) (u := 1 + n0 + 2 + 8 + 4) (n := 32) (by omega)
  have a2' : takeU s 0 1 = 1 := a2
  unfold readA
  rw [h0, Int.toNat_natCast, a2', b2, c2, d2, e2, f2, a3, b3, c3, d3, e3, f3, b1, f1]
  rw [if_neg (by decide)]
  rfl
theorem read_short {s : ByteArray} {n0 : Nat} (h0 : num s 0 1 = (n0 : Int)) (h1 : ¬ 47 + n0 ≤ s.size) : readA s = errA := by
  unfold readA
  rw [h0, Int.toNat_natCast]
  refine if_pos ?_
  cases ha : takeB s 0 1 with
  | true => simp
  | false =>
    obtain ⟨a1, a2⟩ := takeU_eq ha
    rw [a2]
    cases hb : takeB s (0 + 1) n0 with
    | true => simp
    | false =>
      obtain ⟨b1, b2⟩ := takeU_eq hb
      rw [b2]
      cases hc : takeB s (0 + 1 + n0) 2 with
      | true => simp
      | false =>
        obtain ⟨c1, c2⟩ := takeU_eq hc
        rw [c2]
        cases hd : takeB s (0 + 1 + n0 + 2) 8 with
        | true => simp
        | false =>
          obtain ⟨d1, d2⟩ := takeU_eq hd
          rw [d2]
          cases he : takeB s (0 + 1 + n0 + 2 + 8) 4 with
          | true => simp
          | false =>
            obtain ⟨e1, e2⟩ := takeU_eq he
            rw [e2]
            cases hf : takeB s (0 + 1 + n0 + 2 + 8 + 4) 32 with
            | true => simp
            | false =>
              obtain ⟨f1, f2⟩ := takeU_eq hf
              omega
/-! ### Numbers and their bytes -/
theorem dg_by : ∀ (d : Nat) (x : Int), IsBytes (dg x d)
  | 0, _ => fun v hv => by cases hv
  | d + 1, x => by
    intro v hv
    rw [dg, List.mem_append, List.mem_singleton] at hv
    rcases hv with hv | rfl
    · exact dg_by d _ v hv
    · omega
theorem bytes_numS (n : Int) (m : Nat) : bytesOf (numS n m) = dg n m := by
  have e : numS n m = strOfNums (dg n m) := by unfold numS strOfNums; rw [top_dg]
  rw [e, bytesOf_str (dg_by m n)]
theorem be_dg : ∀ (d : Nat) (x : Int), 0 ≤ x → x < (256 : Int) ^ d → beL (dg x d) = x
  | 0, x, h0, h1 => by
    have : x = 0 := by simp at h1; omega
    subst this
    rfl
  | d + 1, x, h0, h1 => by
    rw [dg, be_snoc, be_dg d (x / 256) (by omega) (by rw [Int.pow_succ] at h1; exact Int.ediv_lt_of_lt_mul (by decide) h1)]
    omega
theorem snoc_ind {P : List Int → Prop} (h0 : P []) (h1 : ∀ l x, P l → P (l ++ [x])) : ∀ l, P l := by
  have h : ∀ l : List Int, P l.reverse := by
    intro l
    induction l with
    | nil => exact h0
    | cons x l ih => rw [List.reverse_cons]; exact h1 _ _ ih
  intro l
  have := h l.reverse
  rwa [List.reverse_reverse] at this
theorem be_pos : ∀ (l : List Int), IsBytes l → 0 ≤ beL l ∧ beL l < (256 : Int) ^ l.length := by
  refine snoc_ind (fun _ => ⟨by decide, by decide⟩) ?_
  · intro l x ih h
    obtain ⟨i1, i2⟩ := ih (fun v hv => h v (List.mem_append_left _ hv))
    have hx := h x (List.mem_append_right _ (List.mem_singleton_self x))
    rw [be_snoc, List.length_append, List.length_singleton, Int.pow_succ]
    generalize (256 : Int) ^ l.length = P at i2
    omega
theorem dg_be : ∀ (l : List Int), IsBytes l → dg (beL l) l.length = l := by
  refine snoc_ind (fun _ => rfl) ?_
  · intro l x ih h
    have hl : IsBytes l := fun v hv => h v (List.mem_append_left _ hv)
    have hx := h x (List.mem_append_right _ (List.mem_singleton_self x))
    have e1 : (beL l * 256 + x) / 256 = beL l := by omega
    have e2 : (beL l * 256 + x) % 256 = x := by omega
    rw [be_snoc, List.length_append, List.length_singleton, dg, e1, e2, ih hl]
theorem wrap_id64 {x : Int} (h0 : 0 ≤ x) (h1 : x ≤ 9223372036854775807) : IntKind.i64.wrap x = x := by rw [IntKind.wrap_i64]; omega
/-- What is read of a number's bytes is the number. -/
theorem num_numS {s : ByteArray} {u m : Nat} {v : Int} (h : u + m ≤ s.size) (he : s.extract u (u + m) = numS v m) (h0 : 0 ≤ v) (h1 : v < (256 : Int) ^ m) (h2 : v ≤ 9223372036854775807) : num s u m = v := by
  unfold num
  rw [(takes h).1, he, bytes_numS, be_dg m v h0 h1, wrap_id64 h0 h2]
/-- The bytes of what is read, if it is no number below 0. -/
theorem numS_num {s : ByteArray} {u m : Nat} (h : u + m ≤ s.size) (hm : m ≤ 8) (h0 : 0 ≤ num s u m) : numS (num s u m) m = s.extract u (u + m) := by
  unfold num at h0 ⊢
  rw [(takes h).1] at h0 ⊢
  have hl : (bytesOf (s.extract u (u + m))).length = m := by rw [Go.Proofs.YteplphpbpaojjaaDoorW.PrintWords.bytesOf_length, size_ext _ _ _ h]; omega
  have hb := isBytes_of (s.extract u (u + m))
  obtain ⟨p1, p2⟩ := be_pos _ hb
  have p3 : beL (bytesOf (s.extract u (u + m))) < 18446744073709551616 := by
    refine Int.lt_of_lt_of_le p2 ?_
    rw [hl]
    have h8 : (256 : Int) ^ m ≤ (256 : Int) ^ 8 := by
      rcases (show m = 0 ∨ m = 1 ∨ m = 2 ∨ m = 3 ∨ m = 4 ∨ m = 5 ∨ m = 6 ∨ m = 7 ∨ m = 8 by omega) with e | e | e | e | e | e | e | e | e <;> subst e <;> decide
    exact h8
  have e : IntKind.i64.wrap (beL (bytesOf (s.extract u (u + m)))) = beL (bytesOf (s.extract u (u + m))) := by
    rw [IntKind.wrap_i64] at h0 ⊢
    omega
  rw [e]
  apply bytesOf_inj
  rw [bytes_numS]
  have := dg_be _ hb
  rw [hl] at this
  exact this
theorem ext_at (a b c : ByteArray) (u n : Nat) (ha : a.size = u) (hb : b.size = n) : (a ++ (b ++ c)).extract u (u + n) = b := by
  subst ha
  subst hb
  apply bytesOf_inj
  rw [bytesOf_extract, bytesOf_append, bytesOf_append]
  have l1 : (bytesOf a).length = a.size := Go.Proofs.YteplphpbpaojjaaDoorW.PrintWords.bytesOf_length a
  have l2 : (bytesOf b).length = b.size := Go.Proofs.YteplphpbpaojjaaDoorW.PrintWords.bytesOf_length b
  rw [List.take_append, List.drop_append, ← l1, List.take_of_length_le (by omega), List.drop_length, List.nil_append, Nat.sub_self, List.drop_zero, Nat.add_sub_cancel_left, ← l2, List.take_left']
  rfl
theorem make_size (nm : ByteArray) (mo ti sz : Int) (su : ByteArray) (h : su.size = 32) : (makeB nm mo ti sz su).size = 1 + nm.size + 2 + 8 + 4 + 32 := by
  unfold makeB
  rw [ByteArray.size_append, ByteArray.size_append, ByteArray.size_append, ByteArray.size_append, ByteArray.size_append, numS_size, numS_size, numS_size, numS_size, h]
/-- Read of Make is what was said. -/
theorem read_make (nm : ByteArray) (mo ti sz : Int) (su t : ByteArray) (hN : nameL nm.data.toList = true) (hR : restB mo ti sz su = true) : readA (makeB nm mo ti sz su ++ t) = ⟨nm, mo, ti, sz, su, (makeB nm mo ti sz su).size, 0⟩ := by
  have hl := name_len hN
  obtain ⟨r1, r2, r3, r4, r5, r6, r7⟩ := rest_iff hR
  have hms := make_size nm mo ti sz su r7
  obtain ⟨S, hS⟩ : ∃ S, S = makeB nm mo ti sz su ++ t := ⟨_, rfl⟩
  have hSs : S.size = 47 + nm.size + t.size := by rw [hS, ByteArray.size_append, hms]; omega
  have e0 : S = ⟨#[]⟩ ++ (numS (nm.size : Int) 1 ++ (nm ++ (numS mo 2 ++ (numS ti 8 ++ (numS sz 4 ++ (su ++ t)))))) := by
    rw [hS, nil_app]; unfold makeB; simp only [app_assoc]
  have e1 : S = numS (nm.size : Int) 1 ++ (nm ++ (numS mo 2 ++ (numS ti 8 ++ (numS sz 4 ++ (su ++ t))))) := by
    rw [hS]; unfold makeB; simp only [app_assoc]
  have e2 : S = (numS (nm.size : Int) 1 ++ nm) ++ (numS mo 2 ++ (numS ti 8 ++ (numS sz 4 ++ (su ++ t)))) := by
    rw [hS]; unfold makeB; simp only [app_assoc]
  have e3 : S = ((numS (nm.size : Int) 1 ++ nm) ++ numS mo 2) ++ (numS ti 8 ++ (numS sz 4 ++ (su ++ t))) := by
    rw [hS]; unfold makeB; simp only [app_assoc]
  have e4 : S = (((numS (nm.size : Int) 1 ++ nm) ++ numS mo 2) ++ numS ti 8) ++ (numS sz 4 ++ (su ++ t)) := by
    rw [hS]; unfold makeB; simp only [app_assoc]
  have e5 : S = ((((numS (nm.size : Int) 1 ++ nm) ++ numS mo 2) ++ numS ti 8) ++ numS sz 4) ++ (su ++ t) := by
    rw [hS]; unfold makeB; simp only [app_assoc]
  have x0 : S.extract 0 (0 + 1) = numS (nm.size : Int) 1 := by rw [e0]; exact ext_at _ _ _ 0 1 rfl (numS_size _ _)
  have x1 : S.extract 1 (1 + nm.size) = nm := by rw [e1]; exact ext_at _ _ _ _ _ (numS_size _ _) rfl
  have x2 : S.extract (1 + nm.size) (1 + nm.size + 2) = numS mo 2 := by rw [e2]; exact ext_at _ _ _ _ _ (by rw [ByteArray.size_append, numS_size]) (numS_size _ _)
  have x3 : S.extract (1 + nm.size + 2) (1 + nm.size + 2 + 8) = numS ti 8 := by rw [e3]; exact ext_at _ _ _ _ _ (by rw [ByteArray.size_append, ByteArray.size_append, numS_size, numS_size]) (numS_size _ _)
  have x4 : S.extract (1 + nm.size + 2 + 8) (1 + nm.size + 2 + 8 + 4) = numS sz 4 := by rw [e4]; exact ext_at _ _ _ _ _ (by rw [ByteArray.size_append, ByteArray.size_append, ByteArray.size_append, numS_size, numS_size, numS_size]) (numS_size _ _)
  have x5 : S.extract (1 + nm.size + 2 + 8 + 4) (1 + nm.size + 2 + 8 + 4 + 32) = su := by rw [e5]; exact ext_at _ _ _ _ _ (by rw [ByteArray.size_append, ByteArray.size_append, ByteArray.size_append, ByteArray.size_append, numS_size, numS_size, numS_size, numS_size]) r7
  have n0 : num S 0 1 = (nm.size : Int) := num_numS (by omega) x0 (by omega) (by show (nm.size : Int) < 256; omega) (by omega)
  have n2 : num S (1 + nm.size) 2 = mo := num_numS (by omega) x2 r1 (by show mo < 65536; omega) (by omega)
  have n3 : num S (1 + nm.size + 2) 8 = ti := num_numS (by omega) x3 r3 (by show ti < 18446744073709551616; omega) (by omega)
  have n4 : num S (1 + nm.size + 2 + 8) 4 = sz := num_numS (by omega) x4 r5 (by show sz < 4294967296; omega) (by omega)
  rw [← hS, read_fit n0 (by omega), x1, n2, n3, n4, x5, if_pos (by unfold mayB; rw [hN, hR]; rfl), hms]
/-- What Read tells may be, and Make of it are the bytes that were used; or it is refused. -/
theorem read_cases (s : ByteArray) : readA s = errA ∨ ((readA s).e = 0 ∧ mayB (readA s).nm (readA s).mo (readA s).ti (readA s).sz (readA s).su = true ∧ (readA s).used = 47 + (readA s).nm.size ∧ (readA s).used ≤ s.size ∧ makeB (readA s).nm (readA s).mo (readA s).ti (readA s).sz (readA s).su = s.extract 0 (readA s).used) := by
  obtain ⟨n0, hn0, hn1⟩ := num_one s 0
  by_cases h1 : 47 + n0 ≤ s.size
  · have h := read_fit hn0 h1
    by_cases hM : mayB (s.extract 1 (1 + n0)) (num s (1 + n0) 2) (num s (1 + n0 + 2) 8) (num s (1 + n0 + 2 + 8) 4) (s.extract (1 + n0 + 2 + 8 + 4) (1 + n0 + 2 + 8 + 4 + 32)) = true
    · rw [if_pos hM] at h
      refine .inr ?_
      rw [h]
      have hnm : (s.extract 1 (1 + n0)).size = n0 := by rw [size_ext _ _ _ (by omega)]; omega
      refine ⟨rfl, hM, by show 1 + n0 + 2 + 8 + 4 + 32 = 47 + (s.extract 1 (1 + n0)).size; rw [hnm]; omega, by show 1 + n0 + 2 + 8 + 4 + 32 ≤ s.size; omega, ?_⟩
      unfold mayB at hM
      rw [Bool.and_eq_true] at hM
      obtain ⟨r1, r2, r3, r4, r5, r6, r7⟩ := rest_iff hM.2
      show makeB (s.extract 1 (1 + n0)) (num s (1 + n0) 2) (num s (1 + n0 + 2) 8) (num s (1 + n0 + 2 + 8) 4) (s.extract (1 + n0 + 2 + 8 + 4) (1 + n0 + 2 + 8 + 4 + 32)) = s.extract 0 (1 + n0 + 2 + 8 + 4 + 32)
      unfold makeB
      rw [hnm, ← hn0, numS_num (by omega) (by decide) (by rw [hn0]; omega), numS_num (by omega) (by decide) r1, numS_num (by omega) (by decide) r3, numS_num (by omega) (by decide) r5]
      rw [show (0 : Nat) + 1 = 1 from rfl]
      rw [← ByteArray.extract_eq_extract_append_extract 1 (by omega) (by omega), ← ByteArray.extract_eq_extract_append_extract (1 + n0) (by omega) (by omega), ← ByteArray.extract_eq_extract_append_extract (1 + n0 + 2) (by omega) (by omega), ← ByteArray.extract_eq_extract_append_extract (1 + n0 + 2 + 8) (by omega) (by omega), ← ByteArray.extract_eq_extract_append_extract (1 + n0 + 2 + 8 + 4) (by omega) (by omega)]
    · rw [if_neg hM] at h
      exact .inl h
  · exact .inl (read_short hn0 h1)
end Go.Proofs.YteplphpbpaojjaaDoor.Me
namespace Go.Proofs.YteplphpbpaojjaaDoor.Me
open Go.RowKit Go.Lib Go.Proofs.YteplphpbpaojjaaDoorW.PrintWords Go.Proofs.YteplphpbpaojjaaDoorW.PrintLast Go.Proofs.YteplphpbpaojjaaDoorW.PrintMore Go.Proofs.YteplphpbpaojjaaDoor.PMa Go.Proofs.YteplphpbpaojjaaDoor.Pb
set_option linter.unusedVariables false
set_option linter.unusedSimpArgs false
set_option maxRecDepth 100000 in
theorem works_at2 : hamperlaw19_works.f 60 = some true := by decide +kernel
theorem works_f2 (k : Nat) (h : 60 ≤ k) : hamperlaw19_works.f k = some true := at_rounds hamperlaw19_works.mono h works_at2
theorem readM_f2 (s : ByteArray) (h : s.size ≤ 1000000000000000) : meta_Read.f s = some ((readA s).nm, (readA s).mo, (readA s).ti, (readA s).sz, (readA s).su, ((readA s).used : Int), (readA s).e) := if_pos h
abbrev R5 := S25
def mkB (x : R5) : ByteArray := makeB x.f0 x.f1 x.f2 x.f3 x.f4
def Fine (x : R5) : Prop := nameL x.f0.data.toList = true ∧ restB x.f1 x.f2 x.f3 x.f4 = true
/-- Their bytes, one behind the other. -/
def catB : List R5 → ByteArray
  | [] => ⟨#[]⟩
  | x :: l => mkB x ++ catB l
theorem catB_snoc (l : List R5) (x : R5) : catB (l ++ [x]) = catB l ++ mkB x := by
  induction l with
  | nil => simp only [List.nil_append, catB, nil_app, app_nil]
  | cons y l ih => rw [List.cons_append, catB, catB, ih, app_assoc]
theorem mkB_size {x : R5} (h : Fine x) : (mkB x).size = 47 + x.f0.size ∧ x.f0.size ≤ 255 := by
  have e := make_size x.f0 x.f1 x.f2 x.f3 x.f4 (rest_iff h.2).2.2.2.2.2.2
  exact ⟨by unfold mkB; rw [e]; omega, name_len h.1⟩
theorem catB_size : ∀ (l : List R5), (∀ x ∈ l, Fine x) → (catB l).size ≤ 302 * l.length
  | [], _ => Nat.zero_le _
  | x :: l, h => by
    have h1 := catB_size l (fun y hy => h y (List.mem_cons_of_mem _ hy))
    obtain ⟨e, b⟩ := mkB_size (h x List.mem_cons_self)
    rw [catB, ByteArray.size_append, List.length_cons]
    omega
theorem read_nil : readA ⟨#[]⟩ = errA := by
  obtain ⟨n0, hn0, hn1⟩ := num_one ⟨#[]⟩ 0
  exact read_short hn0 (by rw [size_nil]; omega)
theorem rows_at (l : List R5) (i : Nat) (h : i < l.length) : l.drop i = rd_T25 l (i : Int) :: l.drop (i + 1) := by
  unfold rd_T25
  rw [Int.toNat_natCast, List.getD_eq_getElem?_getD, List.getElem?_eq_getElem h, List.drop_eq_getElem_cons h]
  rfl
theorem rows_l1 (l : List R5) (hl : l.length ≤ 60) (hf : ∀ x ∈ l, Fine x) : ∀ (d i k : Nat), i + d = l.length → d + 1 ≤ k → hamperlaw19_MetaRows.l1 k (catB (l.drop i)) l (i : Int) = some true
  | 0, i, k, hi, hk => by
    obtain ⟨k, rfl⟩ : ∃ q, k = q + 1 := ⟨k - 1, by omega⟩
    rw [List.drop_eq_nil_of_le (by omega), catB, hamperlaw19_MetaRows.l1, if_neg (by omega)]
    refine bind_eq (readM_f2 _ (by rw [size_nil]; decide)) ?_
    rw [read_nil, if_pos ((tl_nil _).2 rfl)]
    rfl
  | d + 1, i, k, hi, hk => by
    obtain ⟨k, rfl⟩ : ∃ q, k = q + 1 := ⟨k - 1, by omega⟩
    have hlt : i < l.length := by omega
    have hd := rows_at l i hlt
    have hx : Fine (rd_T25 l (i : Int)) := hf _ (List.mem_of_mem_drop (hd ▸ List.mem_cons_self))
    have hrest := catB_size (l.drop (i + 1)) (fun x h => hf x (List.mem_of_mem_drop h))
    rw [List.length_drop] at hrest
    have ih := rows_l1 l hl hf d (i + 1) k (by omega) (by omega)
    rw [hd, catB]
    obtain ⟨x, hxx⟩ : ∃ x, x = rd_T25 l (i : Int) := ⟨_, rfl⟩
    rw [← hxx] at hx ⊢
    rw [hamperlaw19_MetaRows.l1, if_pos (by omega), ← hxx]
    obtain ⟨hs1, hs2⟩ := mkB_size hx
    have hw : wrap64 ((i : Int) + 1) = ((i + 1 : Nat) : Int) := by rw [wrap_id (by omega) (by omega)]; omega
    refine bind_eq (readM_f2 _ (by rw [ByteArray.size_append]; omega)) ?_
    have hrd := read_make x.f0 x.f1 x.f2 x.f3 x.f4 (catB (l.drop (i + 1))) hx.1 hx.2
    rw [show makeB x.f0 x.f1 x.f2 x.f3 x.f4 = mkB x from rfl] at hrd
    rw [hrd]
    dsimp only
    have w1 : wrap64 (47 + (x.f0.size : Int)) = 47 + (x.f0.size : Int) := wrap_id (by omega) (by omega)
    rw [if_pos rfl, if_pos (by omega), if_neg (by simp), w1, if_pos (by omega), if_pos (by omega), if_pos (by rw [ByteArray.size_append]; omega), Int.toNat_natCast, ext_app_right, hw]
    exact ih
theorem rows_l0 (l : List R5) (hl : l.length ≤ 60) : ∀ (d i k : Nat) (acc : List R5), i + d = l.length → 62 + d ≤ k → acc.length ≤ i → (∀ x ∈ acc, Fine x) → hamperlaw19_MetaRows.l0 k l (catB acc) acc (i : Int) = some true
  | 0, i, k, acc, hi, hk, ha, hf => by
    obtain ⟨k, rfl⟩ : ∃ q, k = q + 1 := ⟨k - 1, by omega⟩
    rw [hamperlaw19_MetaRows.l0, if_neg (by omega)]
    have h := rows_l1 acc (by omega) hf acc.length 0 k (by omega) (by omega)
    rwa [List.drop_zero] at h
  | d + 1, i, k, acc, hi, hk, ha, hf => by
    obtain ⟨k, rfl⟩ : ∃ q, k = q + 1 := ⟨k - 1, by omega⟩
    have hw : wrap64 ((i : Int) + 1) = ((i + 1 : Nat) : Int) := by rw [wrap_id (by omega) (by omega)]; omega
    rw [hamperlaw19_MetaRows.l0, if_pos (by omega), if_pos (by omega)]
    generalize rd_T25 l (i : Int) = x
    refine bind_eq (make_f _ _ _ _ _) ?_
    have hsz := catB_size acc hf
    rw [hw]
    by_cases hN : nameL x.f0.data.toList = true
    · by_cases hR : restB x.f1 x.f2 x.f3 x.f4 = true
      · have hm : makeR x.f0 x.f1 x.f2 x.f3 x.f4 = (mkB x, 0) := by unfold makeR; rw [if_pos hN, if_pos hR]; rfl
        have hx : Fine x := ⟨hN, hR⟩
        obtain ⟨hs1, hs2⟩ := mkB_size hx
        rw [hm, if_pos rfl, if_pos (by show (catB acc).size + (mkB x).size ≤ _; omega), if_pos (by omega)]
        have ih := rows_l0 l hl d (i + 1) k (acc ++ [x]) (by omega) (by omega) (by rw [List.length_append, List.length_singleton]; omega) (fun y hy => by
          rcases List.mem_append.1 hy with h | h
          · exact hf y h
          · rw [List.mem_singleton] at h
            rw [h]
            exact hx)
        rw [catB_snoc] at ih
        exact ih
      · have hm : makeR x.f0 x.f1 x.f2 x.f3 x.f4 = (⟨#[]⟩, 4) := by unfold makeR; rw [if_pos hN, if_neg hR]
        rw [hm, if_neg (by decide)]
        exact rows_l0 l hl d (i + 1) k acc (by omega) (by omega) (by omega) hf
    · have hm : makeR x.f0 x.f1 x.f2 x.f3 x.f4 = (⟨#[]⟩, 60) := by unfold makeR; rw [if_neg hN]
      rw [hm, if_neg (by decide)]
      exact rows_l0 l hl d (i + 1) k acc (by omega) (by omega) (by omega) hf
theorem MetaRows (l : List R5) : hamperlaw19_MetaRows.f 200 l = some true := by
  unfold hamperlaw19_MetaRows.f
  refine bind_eq (works_f2 200 (by decide)) ?_
  rw [if_pos rfl, hamperlaw19_MetaRows.j0]
  by_cases h : (l.length : Int) > 60
  · rw [decide_eq_true h, if_pos rfl]
    exact bind_eq (works_f2 199 (by decide)) rfl
  · rw [decide_eq_false h, if_neg (by decide)]
    exact rows_l0 l (by omega) l.length 0 199 [] (by omega) (by omega) (Nat.le_refl _) (fun x hx => by cases hx)
theorem MetaRows_walk (A : Option Addr) (c : Nat) (l : List R5) (w : World) (hr : Kd.C k25 w A l.length l) (hc : l.length ≤ c) (_ : ∀ p ∈ l, p.f0.size ≤ maxLen ∧ (Lit.int .i64 p.f1).wf = true ∧ (Lit.int .i64 p.f2).wf = true ∧ (Lit.int .i64 p.f3).wf = true ∧ p.f4.size ≤ maxLen) (hT : Tabs w) :
    Calls Tryd.prog 6 #[.slice A l.length c] w fun e w' => e = .returned (.bool true) ∧ Below w.heap.size w w' :=
  hamperlaw19_MetaRows.calls 200 A c l true w hT hr hc (MetaRows l)
end Go.Proofs.YteplphpbpaojjaaDoor.Me
