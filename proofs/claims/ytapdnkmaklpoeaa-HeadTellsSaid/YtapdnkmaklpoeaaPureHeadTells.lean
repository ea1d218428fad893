/- HeadTells: the bytes of any header, the header by which any bytes begin, and the headers of which they are, are the document's, or it is refused. -/
import Derived.Test.YtapdnkmaklpoeaaHeadGet
import Derived.Test.YtapdnkmaklpoeaaPTellx33
import Derived.Test.YtapdnkmaklpoeaaVs
import Derived.Test.YtapdnkmaklpoeaaPTellx49
namespace Go.Proofs.Ytapdnkmaklpoeaa.Hw
open Go.RowKit Go.Proofs.YtapdnkmaklpoeaaW.PrintWords Go.Proofs.YtapdnkmaklpoeaaW.PrintLast Go.Proofs.YtapdnkmaklpoeaaW.PrintMore Go.Proofs.Ytapdnkmaklpoeaa.PTell
open Go.Proofs.Ytapdnkmaklpoeaa.Vm (enc enc_lt enc_ge enc_pos enc_bytes enc_len9 put_f putR_ok get_f getR getR_cases number_f number_no long_f text_rest left_f good_f)
open Go.Proofs.Ytapdnkmaklpoeaa.Pb
set_option linter.unusedVariables false
set_option linter.unusedSimpArgs false
attribute [local irreducible] made front Bk.blakeSum
theorem nf : ¬ (false = true) := by decide
theorem text_bad (s : ByteArray) (n : Int) : vint_Reader_Text.f s true n = some (⟨#[]⟩, s, true) := by unfold vint_Reader_Text.f; rw [if_pos rfl]
theorem text_over (s : ByteArray) (n : Nat) (h : s.size < n) : vint_Reader_Text.f s false (n : Int) = some (⟨#[]⟩, s, true) := by
  unfold vint_Reader_Text.f
  rw [if_neg (by decide), if_neg (by omega), if_pos (by omega)]
theorem left_bad (s : ByteArray) : vint_Reader_Left.f s true = some (0, s, true) := by simp [vint_Reader_Left.f, vint_Reader_Good.f]
theorem number_bad (k : Nat) (s : ByteArray) : vint_Reader_Number.f k s true = some (0, s, true) := by unfold vint_Reader_Number.f; rw [if_pos rfl]
theorem long_bad (k : Nat) (s : ByteArray) : vint_Reader_Long.f k s true = some (⟨#[]⟩, s, true) := by
  unfold vint_Reader_Long.f
  exact bind_eq (number_bad k s) (bind_eq (text_bad s 0) rfl)
theorem get_bad_long (k : Nat) (S t s1 x s2 : ByteArray) (b : Bool) (ht : vint_Reader_Text.f S false 1 = some (t, s1, b)) (hl : vint_Reader_Long.f k s1 b = some (x, s2, true)) : head_Get.f k S = some (0, ⟨#[]⟩, 0, 4) := by
  unfold head_Get.f
  exact bind_eq rfl (bind_eq ht (bind_eq hl (bind_eq (left_bad s2) (bind_eq (text_bad s2 4) (bind_eq (good_f s2 true) (ite_no nf rfl))))))
theorem get_bad_sum (k : Nat) (S t s1 x s2 : ByteArray) (ht : vint_Reader_Text.f S false 1 = some (t, s1, false)) (hl : vint_Reader_Long.f k s1 false = some (x, s2, false)) (h4 : s2.size < 4) : head_Get.f k S = some (0, ⟨#[]⟩, 0, 4) := by
  unfold head_Get.f
  exact bind_eq rfl (bind_eq ht (bind_eq hl (bind_eq (left_f s2) (bind_eq (text_over s2 4 h4) (bind_eq (good_f s2 true) (ite_no nf rfl))))))
theorem get_bad_end (k : Nat) (S t s1 x s2 u s3 : ByteArray) (ht : vint_Reader_Text.f S false 1 = some (t, s1, false)) (hl : vint_Reader_Long.f k s1 false = some (x, s2, false)) (hu : vint_Reader_Text.f s2 false 4 = some (u, s3, false))
    (ht1 : 0 < (t.size : Int)) (n : Int) (hn : wrap64 ((S.size : Int) - (s2.size : Int)) = n) (h0 : 0 ≤ n) (h1 : n ≤ (S.size : Int)) (d : ByteArray) (hd : blake_Sum.f (S.extract 0 n.toNat) = some d) (hd4 : (4 : Int) ≤ (d.size : Int))
    (hno : ¬ (1 ≤ bt t 0 ∧ bt t 0 ≤ 9 ∧ x.size ≤ 1048576 ∧ (d.extract 0 4).toList = u.toList)) : head_Get.f k S = some (0, ⟨#[]⟩, 0, 4) := by
  subst hn
  unfold head_Get.f
  refine bind_eq rfl (bind_eq ht (bind_eq hl (bind_eq (left_f s2) (bind_eq hu (bind_eq (good_f s3 false) (ite_yes rfl (ite_yes ht1 ?_)))))))
  by_cases c1 : bt t 0 < 1
  · exact ite_yes c1 rfl
  refine ite_no c1 ?_
  by_cases c2 : bt t 0 > 9
  · exact ite_yes c2 rfl
  refine ite_no c2 ?_
  by_cases c3 : (x.size : Int) > 1048576
  · exact ite_yes c3 rfl
  refine ite_no c3 (ite_yes h0 (ite_yes h1 (bind_eq hd (ite_yes (by decide) (ite_yes hd4 (ite_no ?_ rfl))))))
  intro e
  exact hno ⟨Int.not_lt.mp c1, Int.not_lt.mp c2, Int.ofNat_le.mp (Int.not_lt.mp c3), e⟩
theorem size_of_bytes {s : ByteArray} {l : List Int} (h : bytesOf s = l) : s.size = l.length := by rw [← h, bytesOf_length]
theorem split_four (s : ByteArray) (h : 4 ≤ s.size) : ∃ a b : List Int, bytesOf s = a ++ b ∧ a.length = 4 :=
  ⟨(bytesOf s).take 4, (bytesOf s).drop 4, (List.take_append_drop 4 _).symm, by rw [List.length_take, bytesOf_length]; omega⟩
theorem get_cases (S : ByteArray) (hsz : S.size ≤ 140737488351232) :
    (∃ kind body rest, Fit kind body ∧ S = made kind body ++ rest) ∨ (∀ k, 20 ≤ k → head_Get.f k S = some (0, ⟨#[]⟩, 0, 4)) := by
  by_cases h0 : S.size = 0
  · refine .inr fun k _ => ?_
    exact get_bad_long k S ⟨#[]⟩ S ⟨#[]⟩ S true (text_over S 1 (by omega)) (long_bad k S)
  have hb0 : ∃ c l, bytesOf S = [c] ++ l := by
    cases hl : bytesOf S with
    | nil => rw [size_of_bytes hl] at h0; exact absurd rfl h0
    | cons c l => exact ⟨c, l, rfl⟩
  obtain ⟨c, l, hcl⟩ := hb0
  obtain ⟨t, s1, ht, ht1, hs1⟩ := text_rest S [c] l hcl
  have ht' : vint_Reader_Text.f S false 1 = some (t, s1, false) := ht
  rcases getR_cases s1 with hno | ⟨m, rest, hm, hmr, hg⟩
  · refine .inr fun k hk => ?_
    refine get_bad_long k S t s1 ⟨#[]⟩ s1 false ht' ?_
    unfold vint_Reader_Long.f
    exact bind_eq (number_no s1 hno k hk) (bind_eq (text_bad s1 0) rfl)
  have hnum := fun k hk => number_f s1 m hm rest hmr k hk
  by_cases hlen : rest.length < m
  · refine .inr fun k hk => ?_
    obtain ⟨s2, hn2, hs2⟩ := hnum k hk
    refine get_bad_long k S t s1 ⟨#[]⟩ s2 false ht' ?_
    unfold vint_Reader_Long.f
    exact bind_eq hn2 (bind_eq (text_over s2 m (by rw [size_of_bytes hs2]; exact hlen)) rfl)
  have hbody : ∃ body : ByteArray, ∃ rest2 : List Int, rest = bytesOf body ++ rest2 ∧ body.size = m := by
    have hB : Pb.IsBytes (rest.take m) := by
      intro x hx
      have h1 : x ∈ bytesOf s1 := by rw [hmr]; exact List.mem_append_right _ (List.mem_of_mem_take hx)
      exact Pb.isBytes_of s1 x h1
    refine ⟨strOfNums (rest.take m), rest.drop m, ?_, ?_⟩
    · rw [bytesOf_str hB, List.take_append_drop]
    · rw [size_nums, List.length_take]; omega
  obtain ⟨body, rest2, hr, hbm⟩ := hbody
  subst hbm
  rw [hr] at hmr
  have hlong := fun k hk => long_f s1 body hm rest2 hmr k hk
  have hS : bytesOf S = [c] ++ (enc body.size ++ (bytesOf body ++ rest2)) := by rw [hcl, ← hmr, hs1]
  have hcB : IsBytes [c] := by
    intro x hx
    exact Pb.isBytes_of S x (by rw [hcl]; exact List.mem_append_left _ hx)
  have hfront : S = front c body ++ strOfNums rest2 := by
    apply bytesOf_inj
    have hB2 : IsBytes rest2 := by
      intro x hx
      exact Pb.isBytes_of S x (by rw [hS]; exact List.mem_append_right _ (List.mem_append_right _ (List.mem_append_right _ hx)))
    rw [hS, bytesOf_append, bytesOf_str hB2]
    unfold front
    rw [bytesOf_append, bytesOf_append, bytesOf_str hcB, bytesOf_str (enc_bytes _)]
    simp only [List.append_assoc]
  have hfs := front_size c body
  have hSs : S.size = (front c body).size + rest2.length := by
    have := congrArg ByteArray.size hfront
    rw [ByteArray.size_append, size_nums] at this
    exact this
  generalize hF : front c body = F at hfront hfs hSs
  by_cases h4 : rest2.length < 4
  · refine .inr fun k hk => ?_
    obtain ⟨s2, hl2, hs2⟩ := hlong k hk
    exact get_bad_sum k S t s1 body s2 ht' hl2 (by rw [size_of_bytes hs2]; exact h4)
  have hFz : F.size ≤ 140737488351232 := by omega
  have htz : t.size = 1 := size_of_bytes ht1
  have htb : bt t 0 = c := by
    have h2 := bt_bytesOf t 0 (by rw [ht1]; simp)
    rw [show ((0 : Nat) : Int) = 0 from rfl] at h2
    rw [h2]
    simp only [ht1, List.getElem_cons_zero]
  by_cases hok : (1 ≤ c ∧ c ≤ 9 ∧ body.size ≤ 1048576) ∧ bytesOf ((Bk.blakeSum F).extract 0 4) = rest2.take 4
  · refine .inl ⟨c, body, strOfNums (rest2.drop 4), hok.1, ?_⟩
    have hB2 : IsBytes rest2 := by
      intro x hx
      exact Pb.isBytes_of S x (by rw [hS]; exact List.mem_append_right _ (List.mem_append_right _ (List.mem_append_right _ hx)))
    have hB3 : IsBytes (rest2.drop 4) := fun x hx => hB2 x (List.mem_of_mem_drop hx)
    rw [hfront]
    unfold made
    rw [hF, app_assoc]
    congr 1
    apply bytesOf_inj
    rw [bytesOf_append, bytesOf_str hB2, bytesOf_str hB3, hok.2, List.take_append_drop]
  · refine .inr fun k hk => ?_
    obtain ⟨s2, hl2, hs2⟩ := hlong k hk
    have hs2z : s2.size = rest2.length := size_of_bytes hs2
    obtain ⟨a, b, hab, ha4⟩ := split_four s2 (by omega)
    obtain ⟨u, s3, hu, hu1, hs3⟩ := text_rest s2 a b hab
    rw [ha4] at hu
    have hn : wrap64 ((S.size : Int) - (s2.size : Int)) = (F.size : Int) := by rw [wrap_id (by omega) (by omega)]; omega
    refine get_bad_end k S t s1 body s2 u s3 ht' hl2 hu (by rw [htz]; decide) _ hn (Int.natCast_nonneg _) (by omega) (Bk.blakeSum F) ?_ (by rw [Bk.blakeSum_size]; decide) ?_
    · rw [Int.toNat_natCast, hfront, ext_app_left]
      exact sum_f F hFz
    · rintro ⟨q1, q2, q3, q4⟩
      rw [htb] at q1 q2
      refine hok ⟨⟨q1, q2, q3⟩, ?_⟩
      rw [tl_iff.mp q4, hu1]
      have : bytesOf s2 = rest2 := hs2
      rw [← this, hab, ← ha4, List.take_left]
/-- Headers, one behind the other. -/
def catH : List S23 → ByteArray
  | [] => ⟨#[]⟩
  | x :: L => made x.f0 x.f1 ++ catH L
/-- May they all be? -/
def AllFit (L : List S23) : Prop := ∀ x ∈ L, Fit x.f0 x.f1
theorem AllFit.cons {x : S23} {L : List S23} : AllFit (x :: L) ↔ Fit x.f0 x.f1 ∧ AllFit L := by simp [AllFit]
theorem AllFit.append {a b : List S23} (ha : AllFit a) (hb : AllFit b) : AllFit (a ++ b) := by
  intro x hx
  rcases List.mem_append.mp hx with h | h
  · exact ha x h
  · exact hb x h
theorem made_pos (kind : Int) (body : ByteArray) : 5 ≤ (made kind body).size := by rw [made_size]; omega
/-- What begins by a header begins by no other one. -/
theorem made_head {k1 k2 : Int} {b1 b2 r1 r2 : ByteArray} (h1 : Fit k1 b1) (h2 : Fit k2 b2) (e : made k1 b1 ++ r1 = made k2 b2 ++ r2) (hz : (made k1 b1 ++ r1).size ≤ 140737488351232) : k1 = k2 ∧ b1 = b2 ∧ r1 = r2 := by
  have g1 := get_made 20 (Nat.le_refl _) k1 b1 r1 h1 hz
  have g2 := get_made 20 (Nat.le_refl _) k2 b2 r2 h2 (by rw [← e]; exact hz)
  rw [e, g2] at g1
  simp only [Option.some.injEq, Prod.mk.injEq] at g1
  obtain ⟨rfl, rfl, _, _⟩ := g1
  exact ⟨rfl, rfl, (app_inj e rfl).2⟩
theorem get_no {S : ByteArray} (hz : S.size ≤ 140737488351232) (h : head_Get.f 20 S = some (0, ⟨#[]⟩, 0, 4)) (kind : Int) (body rest : ByteArray) (hf : Fit kind body) : S ≠ made kind body ++ rest := by
  intro e
  have g := get_made 20 (Nat.le_refl _) kind body rest hf (by rw [← e]; exact hz)
  rw [← e, h] at g
  simp at g
theorem all_l0 : ∀ (n : Nat) (S : ByteArray) (acc : List S23), S.size ≤ n → n ≤ 140737488351232 → acc.length + n < 5864062014805 → ∀ k, n + 21 ≤ k →
    (∃ L, AllFit L ∧ S = catH L ∧ head_All.l0 k S acc = some (acc ++ L, 0)) ∨ ((∀ L, AllFit L → S ≠ catH L) ∧ head_All.l0 k S acc = some ([], 4)) := by
  intro n
  induction n with
  | zero =>
    intro S acc hS _ _ k hk
    obtain ⟨k, rfl⟩ : ∃ m, k = m + 1 := ⟨k - 1, by omega⟩
    have e : S = ⟨#[]⟩ := size_zero (by omega)
    subst e
    refine .inl ⟨[], by simp [AllFit], rfl, ?_⟩
    simp only [head_All.l0]
    refine bind_eq (get_bad_long k ⟨#[]⟩ ⟨#[]⟩ ⟨#[]⟩ ⟨#[]⟩ ⟨#[]⟩ true (text_over ⟨#[]⟩ 1 (by decide)) (long_bad k ⟨#[]⟩)) (ite_no (by decide) (ite_yes (tl_nil _ |>.mpr rfl) ?_))
    rw [List.append_nil]
  | succ n ih =>
    intro S acc hS hn hacc k hk
    obtain ⟨k, rfl⟩ : ∃ m, k = m + 1 := ⟨k - 1, by omega⟩
    have hz : S.size ≤ 140737488351232 := by omega
    rcases get_cases S hz with ⟨kind, body, rest, hf, e⟩ | hno
    · have hg := get_made k (by omega) kind body rest hf (by rw [← e]; exact hz)
      have hms := made_pos kind body
      have hss : S.size = (made kind body).size + rest.size := by rw [e, ByteArray.size_append]
      have hx : S.extract (((made kind body).size : Int)).toNat S.size = rest := by
        rw [Int.toNat_natCast]
        rw [e]
        exact ext_app_right _ _
      rw [← e] at hg
      have hstep : head_All.l0 (k + 1) S acc = head_All.l0 k rest (acc ++ [⟨kind, body⟩]) := by
        simp only [head_All.l0]
        refine bind_eq hg (ite_yes rfl (ite_yes (by omega) (ite_yes (Int.natCast_nonneg _) (ite_yes (by show ((made kind body).size : Int) ≤ (S.size : Int); omega) ?_))))
        show head_All.l0 k (S.extract (((made kind body).size : Int)).toNat S.size) (acc ++ [⟨kind, body⟩]) = _
        rw [hx]
      rw [hstep]
      rcases ih rest (acc ++ [⟨kind, body⟩]) (by omega) (by omega) (by rw [List.length_append, List.length_singleton]; omega) k (by omega) with ⟨L, hL, hr, hl⟩ | ⟨hL, hl⟩
      · refine .inl ⟨⟨kind, body⟩ :: L, AllFit.cons.mpr ⟨hf, hL⟩, ?_, ?_⟩
        · rw [e, hr]; rfl
        · rw [hl, List.append_assoc, List.singleton_append]
      · refine .inr ⟨?_, hl⟩
        intro L hfL eL
        cases L with
        | nil =>
          have : S.size = 0 := by rw [eL]; rfl
          omega
        | cons x L =>
          obtain ⟨hx1, hx2⟩ := AllFit.cons.mp hfL
          rw [catH, e] at eL
          obtain ⟨_, _, h3⟩ := made_head hf hx1 eL (by rw [← e]; exact hz)
          exact hL L hx2 h3
    · have hg := hno k (by omega)
      by_cases h0 : S = ⟨#[]⟩
      · subst h0
        refine .inl ⟨[], by simp [AllFit], rfl, ?_⟩
        simp only [head_All.l0]
        refine bind_eq hg (ite_no (by decide) (ite_yes (tl_nil _ |>.mpr rfl) ?_))
        rw [List.append_nil]
      · refine .inr ⟨?_, ?_⟩
        · intro L hfL eL
          cases L with
          | nil => exact h0 eL
          | cons x L =>
            obtain ⟨hx1, hx2⟩ := AllFit.cons.mp hfL
            exact get_no hz (hno 20 (Nat.le_refl _)) x.f0 x.f1 (catH L) hx1 eL
        · simp only [head_All.l0]
          exact bind_eq hg (ite_no (by decide) (ite_no (fun q => h0 ((tl_nil _).mp q)) rfl))
theorem all_f (S : ByteArray) (hz : S.size ≤ 1000000) (k : Nat) (hk : S.size + 21 ≤ k) :
    (∃ L, AllFit L ∧ S = catH L ∧ head_All.f k S = some (L, 0)) ∨ ((∀ L, AllFit L → S ≠ catH L) ∧ head_All.f k S = some ([], 4)) := by
  have h := all_l0 S.size S [] (Nat.le_refl _) (by omega) (by simp; omega) k hk
  simp only [List.nil_append] at h
  exact h
end Go.Proofs.Ytapdnkmaklpoeaa.Hw
namespace Go.Proofs.Ytapdnkmaklpoeaa.Hw
open Go.RowKit Go.Proofs.YtapdnkmaklpoeaaW.PrintWords Go.Proofs.YtapdnkmaklpoeaaW.PrintLast Go.Proofs.YtapdnkmaklpoeaaW.PrintMore Go.Proofs.Ytapdnkmaklpoeaa.PTell
open Go.Proofs.Ytapdnkmaklpoeaa.Vm (enc enc_lt enc_ge enc_pos enc_bytes enc_len9 put_f putR_ok get_f getR getR_cases getR_enc ref_put_f ref_get_f)
open Go.Proofs.Ytapdnkmaklpoeaa.Pb
set_option linter.unusedVariables false
set_option linter.unusedSimpArgs false
theorem rsum_f (s : ByteArray) (h : s.size ≤ 140737488351232) : hamperref05_Sum.f s = some (Bk.blakeSum s) := by unfold hamperref05_Sum.f; rw [if_pos h]
theorem ref_make_ok (k : Nat) (hk : 21 ≤ k) (kind : Int) (body : ByteArray) (h : Fit kind body) : hamperref20_Make.f k kind body = some (made kind body, 0) := by
  obtain ⟨k, rfl⟩ : ∃ q, k = q + 1 := ⟨k - 1, by omega⟩
  obtain ⟨h1, h9, hb⟩ := h
  have he : (enc body.size).length ≤ 9 := enc_len9 (by omega)
  have hf := front_size kind body
  have hj : hamperref20_Make.j0 (k + 1) false kind body = some (made kind body, 0) := by
    simp only [hamperref20_Make.j0]
    refine ite_no (by decide) (ite_no (by omega) (bind_eq ((ref_put_f _ k (by omega)).trans (congrArg some (putR_ok (by omega)))) (bind_eq rfl (ite_yes ?_ (ite_yes ?_ (bind_eq (rsum_f _ ?_) (ite_yes (by decide) (ite_yes ?_ (ite_yes ?_ rfl)))))))))
    · rw [size_nums, size_nums]; show 1 + _ ≤ _; omega
    · rw [ByteArray.size_append, size_nums, size_nums]; show 1 + _ + _ ≤ _; omega
    · show (front kind body).size ≤ _; omega
    · rw [Bk.blakeSum_size]; decide
    · show (front kind body).size + ((Bk.blakeSum (front kind body)).extract 0 4).size ≤ _; rw [sum4_size]; omega
  unfold hamperref20_Make.f
  refine ite_no (by omega) ?_
  rw [decide_eq_false (by omega)]
  exact hj
theorem ref_make_kind (k : Nat) (kind : Int) (body : ByteArray) (h : ¬ (1 ≤ kind ∧ kind ≤ 9)) : hamperref20_Make.f (k + 1) kind body = some (⟨#[]⟩, 1) := by
  have hj : hamperref20_Make.j0 (k + 1) true kind body = some (⟨#[]⟩, 1) := by simp only [hamperref20_Make.j0]; exact ite_yes trivial rfl
  unfold hamperref20_Make.f
  by_cases h1 : kind < 1
  · exact ite_yes h1 hj
  · refine ite_no h1 ?_
    rw [decide_eq_true (show kind > 9 by omega)]
    exact hj
attribute [local irreducible] made front Bk.blakeSum
theorem ref_j0_true (k : Nat) (S : ByteArray) (a b : Int) : hamperref20_Get.j0 (k + 1) S a b true = some (0, ⟨#[]⟩, 0, 4) := by
  simp only [hamperref20_Get.j0]
  exact ite_yes trivial rfl
theorem bt_head {S : ByteArray} {c : Int} {l : List Int} (h : bytesOf S = [c] ++ l) : bt S 0 = c := by
  have h2 := bt_bytesOf S 0 (by rw [h]; simp)
  rw [show ((0 : Nat) : Int) = 0 from rfl] at h2
  rw [h2]
  simp only [h, List.singleton_append, List.getElem_cons_zero]
/-- The document's Get, where the bytes begin by a number. -/
theorem ref_get_go (k : Nat) (hk : 100 ≤ k) (S : ByteArray) (hz : S.size ≤ 3000) (c : Int) (m : Nat) (rest : List Int) (hm : m ≤ 4611686018427387903) (hS : bytesOf S = [c] ++ (enc m ++ rest)) :
    (1048576 < m ∨ S.size < 1 + (enc m).length + m + 4 → hamperref20_Get.f k S = some (0, ⟨#[]⟩, 0, 4)) ∧
    (m ≤ 1048576 → 1 + (enc m).length + m + 4 ≤ S.size → ∀ body : ByteArray, body = S.extract (1 + (enc m).length) (1 + (enc m).length + m) →
      (¬ (1 ≤ c ∧ c ≤ 9) → hamperref20_Get.f k S = some (0, ⟨#[]⟩, 0, 4)) ∧
      (1 ≤ c ∧ c ≤ 9 → hamperref20_Get.f k S = if (made c body).toList = (S.extract 0 (made c body).size).toList then some (c, body, ((made c body).size : Int), 0) else some (0, ⟨#[]⟩, 0, 4))) := by
  have hl := size_of_bytes hS
  rw [List.length_append, List.length_append] at hl
  have he : (enc m).length ≤ 9 := enc_len9 (by omega)
  have hne : ¬ S.toList = ([] : List UInt8) := by
    intro e
    have := congrArg ByteArray.size ((tl_nil S).mp e)
    have h00 : (⟨#[]⟩ : ByteArray).size = 0 := rfl
    have h01 : [c].length = 1 := rfl
    omega
  have h1 : (1 : Int) ≤ (S.size : Int) := by simp at hl; omega
  have hx : bytesOf (S.extract 1 S.size) = enc m ++ rest := by
    rw [bytesOf_extract, List.take_of_length_le (by rw [bytesOf_length]; exact Nat.le_refl _), hS]
    rfl
  have hg : hamperref18_Get.f k (S.extract 1 S.size) = some ((m : Int), ((enc m).length : Int), 0) := by
    rw [ref_get_f _ (by rw [size_ext _ _ _ (Nat.le_refl _)]; omega) k (by omega), getR_enc _ m hm rest hx]
  have w1 : wrap64 (1 + ((enc m).length : Int)) = ((1 + (enc m).length : Nat) : Int) := by rw [wrap_id (by omega) (by omega)]; omega
  obtain ⟨q, rfl⟩ : ∃ q, k = q + 1 := ⟨k - 1, by omega⟩
  refine ⟨fun hno => ?_, fun hm1 hfit body hbody => ?_⟩
  · unfold hamperref20_Get.f
    refine ite_no hne (ite_yes h1 (bind_eq hg (ite_yes rfl ?_)))
    by_cases hb : ((m : Nat) : Int) > 1048576
    · exact ite_yes hb (ref_j0_true q S _ _)
    · refine ite_no hb ?_
      show hamperref20_Get.j0 (q + 1) S (m : Int) ((enc m).length : Int) (decide (wrap64 (wrap64 (wrap64 (1 + ((enc m).length : Int)) + (m : Int)) + 4) > (S.size : Int))) = _
      have w2 : wrap64 (wrap64 (wrap64 (1 + ((enc m).length : Int)) + (m : Int)) + 4) = ((1 + (enc m).length + m + 4 : Nat) : Int) := by
        rw [w1, wrap_id (x := ((1 + (enc m).length : Nat) : Int) + (m : Int)) (by omega) (by omega), wrap_id (by omega) (by omega)]; omega
      rw [w2, decide_eq_true (by omega)]
      exact ref_j0_true q S _ _
  · have w3 : wrap64 (wrap64 (1 + ((enc m).length : Int)) + (m : Int)) = ((1 + (enc m).length + m : Nat) : Int) := by rw [w1, wrap_id (by omega) (by omega)]; omega
    have w2 : wrap64 (wrap64 (wrap64 (1 + ((enc m).length : Int)) + (m : Int)) + 4) = ((1 + (enc m).length + m + 4 : Nat) : Int) := by rw [w3, wrap_id (by omega) (by omega)]; omega
    have hbz : body.size = m := by rw [hbody, size_ext _ _ _ (by omega)]; omega
    have hc0 := bt_head hS
    have hgo : ∀ r, hamperref20_Get.j0 (q + 1) S (m : Int) ((enc m).length : Int) false = r → hamperref20_Get.f (q + 1) S = r := by
      intro r hr
      unfold hamperref20_Get.f
      refine ite_no hne (ite_yes h1 (bind_eq hg (ite_yes rfl (ite_no (by omega) ?_))))
      show hamperref20_Get.j0 (q + 1) S (m : Int) ((enc m).length : Int) (decide (wrap64 (wrap64 (wrap64 (1 + ((enc m).length : Int)) + (m : Int)) + 4) > (S.size : Int))) = _
      rw [w2, decide_eq_false (by omega)]
      exact hr
    have hex : S.extract (wrap64 (1 + ((enc m).length : Int))).toNat (wrap64 (wrap64 (1 + ((enc m).length : Int)) + (m : Int))).toNat = body := by rw [w3, w1, Int.toNat_natCast, Int.toNat_natCast, hbody]
    refine ⟨fun hk2 => hgo _ ?_, fun hk2 => hgo _ ?_⟩
    · simp only [hamperref20_Get.j0]
      refine ite_no (by decide) (ite_yes (by omega) (ite_yes (by rw [w1]; omega) (ite_yes (by rw [w3, w1]; omega) (ite_yes (by rw [w3]; omega) ?_))))
      rw [hex, hc0]
      obtain ⟨p, rfl⟩ : ∃ p, q = p + 1 := ⟨q - 1, by omega⟩
      exact bind_eq (ref_make_kind p c body hk2) (ite_no (by decide) rfl)
    · have hf : Fit c body := ⟨hk2.1, hk2.2, by omega⟩
      have hms := made_size c body
      simp only [hamperref20_Get.j0]
      refine ite_no (by decide) (ite_yes (by omega) (ite_yes (by rw [w1]; omega) (ite_yes (by rw [w3, w1]; omega) (ite_yes (by rw [w3]; omega) ?_))))
      rw [hex, hc0]
      refine bind_eq (ref_make_ok q (by omega) c body hf) (ite_yes rfl (ite_yes (Int.natCast_nonneg _) (ite_yes ?_ ?_)))
      · show ((made c body).size : Int) ≤ _
        rw [hms, hbz]; omega
      · show (if (made c body).toList = (S.extract 0 (((made c body).size : Int)).toNat).toList then some (c, body, ((made c body).size : Int), 0) else some (0, (⟨#[]⟩ : ByteArray), 0, 4)) = _
        rw [Int.toNat_natCast]
theorem ref_get_same (k : Nat) (hk : 100 ≤ k) (S : ByteArray) (hz : S.size ≤ 3000) : hamperref20_Get.f k S = head_Get.f k S := by
  cases hl : bytesOf S with
  | nil =>
    have h0 : S = ⟨#[]⟩ := size_zero (by rw [size_of_bytes hl]; rfl)
    subst h0
    have hh : head_Get.f k ⟨#[]⟩ = some (0, ⟨#[]⟩, 0, 4) := get_bad_long k ⟨#[]⟩ ⟨#[]⟩ ⟨#[]⟩ ⟨#[]⟩ ⟨#[]⟩ true (text_over ⟨#[]⟩ 1 (by decide)) (long_bad k ⟨#[]⟩)
    rw [hh]
    unfold hamperref20_Get.f
    exact ite_yes ((tl_nil _).mpr rfl) rfl
  | cons c l =>
    have hS : bytesOf S = [c] ++ l := hl
    have hsz := size_of_bytes hl
    rw [List.length_cons] at hsz
    have hx : bytesOf (S.extract 1 S.size) = l := by
      rw [bytesOf_extract, List.take_of_length_le (by rw [bytesOf_length]; exact Nat.le_refl _), hS]
      rfl
    have hno : (∀ kind body rest, Fit kind body → S ≠ made kind body ++ rest) → head_Get.f k S = some (0, ⟨#[]⟩, 0, 4) := by
      intro h
      rcases get_cases S (by omega) with ⟨kind, body, rest, hf, e⟩ | h2
      · exact absurd e (h kind body rest hf)
      · exact h2 k (by omega)
    have hyes : ∀ kind body rest, Fit kind body → S = made kind body ++ rest → head_Get.f k S = some (kind, body, ((made kind body).size : Int), 0) := by
      intro kind body rest hf e
      rw [e]
      exact get_made k (by omega) kind body rest hf (by rw [← e]; omega)
    rcases getR_cases (S.extract 1 S.size) with hbad | ⟨m, rest, hm, hmr, hg⟩
    · have hr : hamperref20_Get.f k S = some (0, ⟨#[]⟩, 0, 4) := by
        unfold hamperref20_Get.f
        refine ite_no ?_ (ite_yes (by omega) (bind_eq ((ref_get_f _ (by rw [size_ext _ _ _ (Nat.le_refl _)]; omega) k (by omega)).trans (congrArg some hbad)) (ite_no (by decide) ?_)))
        · intro e
          have := congrArg ByteArray.size ((tl_nil S).mp e)
          have h00 : (⟨#[]⟩ : ByteArray).size = 0 := rfl
          omega
        · obtain ⟨q, rfl⟩ : ∃ q, k = q + 1 := ⟨k - 1, by omega⟩
          exact ref_j0_true q S _ _
      rw [hr]
      refine (hno fun kind body rest hf e => ?_).symm
      have he : bytesOf (S.extract 1 S.size) = enc body.size ++ (bytesOf body ++ (bytesOf ((Bk.blakeSum (front kind body)).extract 0 4) ++ bytesOf rest)) := by
        have h1 : bytesOf S = [kind] ++ (enc body.size ++ (bytesOf body ++ (bytesOf ((Bk.blakeSum (front kind body)).extract 0 4) ++ bytesOf rest))) := by
          rw [e]
          unfold made
          rw [bytesOf_append, bytesOf_append, front_bytes kind body ⟨hf.1, hf.2.1⟩]
          simp only [List.append_assoc]
        rw [bytesOf_extract, List.take_of_length_le (by rw [bytesOf_length]; exact Nat.le_refl _), h1]
        rfl
      have h2 := getR_enc _ body.size (by have := hf.2.2; omega) _ he
      rw [hbad] at h2
      simp only [Prod.mk.injEq] at h2
      omega
    · rw [hx] at hmr
      have hS2 : bytesOf S = [c] ++ (enc m ++ rest) := by rw [hS, hmr]
      obtain ⟨g1, g2⟩ := ref_get_go k hk S hz c m rest hm hS2
      -- what S is, if it is a header's bytes
      have huse : ∀ kind body r, Fit kind body → S = made kind body ++ r → kind = c ∧ body.size = m ∧ m ≤ 1048576 ∧ 1 + (enc m).length + m + 4 ≤ S.size ∧ body = S.extract (1 + (enc m).length) (1 + (enc m).length + m) := by
        intro kind body r hf e
        have h1 : bytesOf S = [kind] ++ (enc body.size ++ (bytesOf body ++ (bytesOf ((Bk.blakeSum (front kind body)).extract 0 4) ++ bytesOf r))) := by
          rw [e]
          unfold made
          rw [bytesOf_append, bytesOf_append, front_bytes kind body ⟨hf.1, hf.2.1⟩]
          simp only [List.append_assoc]
        have h2 : [kind] ++ (enc body.size ++ (bytesOf body ++ (bytesOf ((Bk.blakeSum (front kind body)).extract 0 4) ++ bytesOf r))) = [c] ++ (enc m ++ rest) := by rw [← h1, hS2]
        simp only [List.singleton_append, List.cons.injEq] at h2
        have h3 := Vm.enc_prefix h2.2
        have hms := made_size kind body
        have hbz : S.size = (made kind body).size + r.size := by rw [e, ByteArray.size_append]
        refine ⟨h2.1, h3, by have := hf.2.2; omega, by rw [← h3]; omega, ?_⟩
        apply bytesOf_inj
        rw [bytesOf_extract, h1, ← h3]
        have hlen : (1 : Nat) + (enc body.size).length = ([kind] ++ enc body.size).length := by rw [List.length_append]; rfl
        have hlb : body.size = (bytesOf body).length := (bytesOf_length body).symm
        rw [← List.append_assoc, ← List.append_assoc, hlen]
        rw [show ([kind] ++ enc body.size).length + body.size = ([kind] ++ enc body.size ++ bytesOf body).length by rw [List.length_append (bs := bytesOf body), bytesOf_length]]
        rw [List.take_left, List.drop_left]
      by_cases hfit : m ≤ 1048576 ∧ 1 + (enc m).length + m + 4 ≤ S.size
      · obtain ⟨hm1, hfs⟩ := hfit
        obtain ⟨k1, k2⟩ := g2 hm1 hfs _ rfl
        by_cases hc : 1 ≤ c ∧ c ≤ 9
        · rw [k2 hc]
          obtain ⟨body, hbody⟩ : ∃ body, body = S.extract (1 + (enc m).length) (1 + (enc m).length + m) := ⟨_, rfl⟩
          rw [← hbody]
          have hbz : body.size = m := by rw [hbody, size_ext _ _ _ (by omega)]; omega
          have hf : Fit c body := ⟨hc.1, hc.2, by omega⟩
          have hms := made_size c body
          by_cases ht : (made c body).toList = (S.extract 0 (made c body).size).toList
          · rw [if_pos ht]
            have e : S = made c body ++ S.extract (made c body).size S.size := by
              have h9 : made c body = S.extract 0 (made c body).size := bytesOf_inj (Vm.tl_iff.mp ht)
              apply bytesOf_inj
              have h10 : bytesOf (made c body) = (bytesOf S).take (made c body).size := by
                conv => lhs; rw [h9]
                rw [bytesOf_extract, List.drop_zero]
              rw [bytesOf_append, h10, bytesOf_extract]
              conv => rhs; arg 2; rw [List.take_of_length_le (show (bytesOf S).length ≤ S.size by rw [bytesOf_length]; exact Nat.le_refl _)]
              rw [List.take_append_drop]
            exact (hyes c body _ hf e).symm
          · rw [if_neg ht]
            refine (hno fun kind body' r hf' e => ?_).symm
            obtain ⟨u1, _, _, _, u5⟩ := huse kind body' r hf' e
            rw [← hbody] at u5
            subst u1 u5
            apply ht
            rw [e, ext_app_left]
        · rw [k1 hc]
          refine (hno fun kind body r hf e => ?_).symm
          obtain ⟨u1, _⟩ := huse kind body r hf e
          subst u1
          exact hc ⟨hf.1, hf.2.1⟩
      · rw [g1 (by omega)]
        refine (hno fun kind body r hf e => ?_).symm
        obtain ⟨_, _, u3, u4, _⟩ := huse kind body r hf e
        exact hfit ⟨u3, u4⟩
/-- A header as the document's. -/
def toR (x : S23) : S29 := ⟨x.f0, x.f1⟩
theorem catH_len : ∀ (L : List S23), 5 * L.length ≤ (catH L).size
  | [] => by simp
  | x :: L => by
    have := catH_len L
    have h5 := made_pos x.f0 x.f1
    rw [catH, ByteArray.size_append, List.length_cons]
    omega
theorem ref_all_yes : ∀ (L : List S23) (acc : List S29) (k : Nat), AllFit L → (catH L).size ≤ 3000 → acc.length + L.length < 1000000 → L.length + 101 ≤ k →
    hamperref20_All.l0 k (catH L) acc = some (acc ++ L.map toR, 0)
  | [], acc, k, _, _, _, hk => by
    obtain ⟨q, rfl⟩ : ∃ q, k = q + 1 := ⟨k - 1, by omega⟩
    simp only [hamperref20_All.l0]
    refine ite_yes ((tl_nil _).mpr rfl) ?_
    rw [List.map_nil, List.append_nil]
  | x :: L, acc, k, hA, hz, hl, hk => by
    obtain ⟨q, rfl⟩ : ∃ q, k = q + 1 := ⟨k - 1, by omega⟩
    obtain ⟨hx, hA⟩ := AllFit.cons.mp hA
    have hms := made_pos x.f0 x.f1
    have hcat : catH (x :: L) = made x.f0 x.f1 ++ catH L := rfl
    rw [hcat] at hz ⊢
    rw [List.length_cons] at hl hk
    have hzs : (made x.f0 x.f1 ++ catH L).size = (made x.f0 x.f1).size + (catH L).size := ByteArray.size_append
    have hg : hamperref20_Get.f q (made x.f0 x.f1 ++ catH L) = some (x.f0, x.f1, ((made x.f0 x.f1).size : Int), 0) := by
      rw [ref_get_same q (by omega) _ hz]
      exact get_made q (by omega) x.f0 x.f1 (catH L) hx (by omega)
    have ih := ref_all_yes L (acc ++ [toR x]) q hA (by omega) (by rw [List.length_append]; show acc.length + 1 + L.length < _; omega) (by omega)
    simp only [hamperref20_All.l0]
    refine ite_no ?_ (bind_eq hg (ite_yes rfl (ite_yes (by omega) (ite_yes (Int.natCast_nonneg _) (ite_yes ?_ ?_)))))
    · intro e
      have h0 := congrArg ByteArray.size ((tl_nil _).mp e)
      have h00 : (⟨#[]⟩ : ByteArray).size = 0 := rfl
      omega
    · show ((made x.f0 x.f1).size : Int) ≤ _
      omega
    · show hamperref20_All.l0 q ((made x.f0 x.f1 ++ catH L).extract (((made x.f0 x.f1).size : Int)).toNat (made x.f0 x.f1 ++ catH L).size) (acc ++ [toR x]) = _
      rw [Int.toNat_natCast, ext_app_right, ih, List.map_cons, List.append_assoc]
      rfl
theorem ref_all_no : ∀ (n : Nat) (S : ByteArray) (acc : List S29) (k : Nat), S.size ≤ n → n ≤ 3000 → acc.length + n < 1000000 → (∀ L, AllFit L → S ≠ catH L) → n + 101 ≤ k →
    hamperref20_All.l0 k S acc = some ([], 4) := by
  intro n
  induction n with
  | zero =>
    intro S acc k hz _ _ hno _
    exact absurd (size_zero (by omega)) (hno [] (by simp [AllFit]))
  | succ n ih =>
    intro S acc k hz hn hl hno hk
    obtain ⟨q, rfl⟩ : ∃ q, k = q + 1 := ⟨k - 1, by omega⟩
    have hne : ¬ S.toList = ([] : List UInt8) := fun e => hno [] (by simp [AllFit]) ((tl_nil _).mp e)
    simp only [hamperref20_All.l0]
    refine ite_no hne ?_
    rcases get_cases S (by omega) with ⟨kind, body, rest, hf, rfl⟩ | hbad
    · have hms := made_pos kind body
      have hzs : (made kind body ++ rest).size = (made kind body).size + rest.size := ByteArray.size_append
      have hg : hamperref20_Get.f q (made kind body ++ rest) = some (kind, body, ((made kind body).size : Int), 0) := by
        rw [ref_get_same q (by omega) _ (by omega)]
        exact get_made q (by omega) kind body rest hf (by omega)
      refine bind_eq hg (ite_yes rfl (ite_yes (by omega) (ite_yes (Int.natCast_nonneg _) (ite_yes ?_ ?_))))
      · show ((made kind body).size : Int) ≤ _
        omega
      · show hamperref20_All.l0 q ((made kind body ++ rest).extract (((made kind body).size : Int)).toNat (made kind body ++ rest).size) _ = _
        rw [Int.toNat_natCast, ext_app_right]
        refine ih rest _ q (by omega) (by omega) (by rw [List.length_append]; show acc.length + 1 + n < _; omega) (fun L hL e => ?_) (by omega)
        refine hno (⟨kind, body⟩ :: L) (AllFit.cons.mpr ⟨hf, hL⟩) ?_
        rw [e]
        rfl
    · have hg : hamperref20_Get.f q S = some (0, ⟨#[]⟩, 0, 4) := by
        rw [ref_get_same q (by omega) _ (by omega)]
        exact hbad q (by omega)
      exact bind_eq hg (ite_no (by decide) rfl)
theorem rd_at (x : List S23) (i : Nat) (h : i < x.length) : rd_T23 x (i : Int) = x[i] := by
  unfold rd_T23
  rw [Int.toNat_natCast, List.getD_eq_getElem?_getD, List.getElem?_eq_getElem h]
  rfl
theorem back_l0 : ∀ (d : Nat) (x : List S23) (acc : List S29) (i k : Nat), x.length = i + d → d < k → acc.length + d < 1000000 → i + d < 1000000 →
    ∃ x', hamperlaw20_back.l0 k x acc (i : Int) = some (acc ++ (x.drop i).map toR, x') := by
  intro d
  induction d with
  | zero =>
    intro x acc i k hx hk _ _
    obtain ⟨q, rfl⟩ : ∃ q, k = q + 1 := ⟨k - 1, by omega⟩
    refine ⟨x, ?_⟩
    simp only [hamperlaw20_back.l0]
    refine ite_no (by omega) ?_
    rw [List.drop_eq_nil_of_le (by omega), List.map_nil, List.append_nil]
  | succ d ih =>
    intro x acc i k hx hk hl hi
    obtain ⟨q, rfl⟩ : ∃ q, k = q + 1 := ⟨k - 1, by omega⟩
    have hlt : i < x.length := by omega
    obtain ⟨x', hx'⟩ := ih (x.set i ⟨(rd_T23 x (i : Int)).f0, ⟨#[115, 112, 111, 105, 108, 116]⟩⟩) (acc ++ [toR (rd_T23 x (i : Int))]) (i + 1) q (by rw [List.length_set]; omega) (by omega) (by rw [List.length_append]; show acc.length + 1 + d < _; omega) (by omega)
    refine ⟨x', ?_⟩
    simp only [hamperlaw20_back.l0]
    refine ite_yes (by omega) (ite_yes (Int.natCast_nonneg _) (ite_yes (by omega) ?_))
    rw [show wrap64 ((i : Int) + 1) = ((i + 1 : Nat) : Int) by rw [wrap_id (by omega) (by omega)]; rfl, Int.toNat_natCast]
    refine hx'.trans ?_
    rw [List.drop_set_of_lt (by omega), List.drop_eq_getElem_cons hlt, List.map_cons, ← rd_at x i hlt, List.append_assoc]
    rfl
theorem back_f (k : Nat) (L : List S23) (hk : L.length < k) (hL : L.length < 1000000) : ∃ x', hamperlaw20_back.f k L = some (L.map toR, x') := by
  obtain ⟨x', h⟩ := back_l0 L.length L [] 0 k (by omega) hk (by simp; omega) (by omega)
  exact ⟨x', h⟩
theorem same_l0 (M : List S29) (hM : M.length < 1000000) : ∀ (d i k : Nat), i + d = M.length → d < k → hamperref20_Same.l0 k M M (i : Int) = some true := by
  intro d
  induction d with
  | zero =>
    intro i k hi hk
    obtain ⟨q, rfl⟩ : ∃ q, k = q + 1 := ⟨k - 1, by omega⟩
    simp only [hamperref20_Same.l0]
    exact ite_no (by omega) rfl
  | succ d ih =>
    intro i k hi hk
    obtain ⟨q, rfl⟩ : ∃ q, k = q + 1 := ⟨k - 1, by omega⟩
    simp only [hamperref20_Same.l0]
    refine ite_yes (by omega) (ite_yes (Int.natCast_nonneg _) (ite_yes (by omega) (ite_no (by simp) ?_)))
    rw [show wrap64 ((i : Int) + 1) = ((i + 1 : Nat) : Int) by rw [wrap_id (by omega) (by omega)]; rfl]
    exact ih (i + 1) q (by omega) (by omega)
theorem same_f (k : Nat) (M : List S29) (hk : M.length < k) (hM : M.length < 1000000) : hamperref20_Same.f k M M = some true := by
  unfold hamperref20_Same.f
  exact ite_yes rfl (same_l0 M hM M.length 0 k (by omega) hk)
theorem tells_round (k : Nat) (hk : 4000 ≤ k) (S : ByteArray) (hz : S.size ≤ 3000) (r : Option Bool) (i : Int) (hi : i < 2) (h : hamperlaw20_HeadTells.l0 k S (wrap64 (i + 1)) = r) : hamperlaw20_HeadTells.l0 (k + 1) S i = r := by
  simp only [hamperlaw20_HeadTells.l0]
  refine ite_yes hi ?_
  rcases all_f S (by omega) k (by omega) with ⟨L, hA, rfl, ha⟩ | ⟨hno, ha⟩
  · have hlen := catH_len L
    have hr : hamperref20_All.f k (catH L) = some (L.map toR, 0) := ref_all_yes L [] k hA hz (by simp; omega) (by omega)
    obtain ⟨x', hb⟩ := back_f k L (by omega) (by omega)
    exact bind_eq ha (bind_eq hr (ite_yes rfl (bind_eq hb (bind_eq (same_f k _ (by rw [List.length_map]; omega) (by rw [List.length_map]; omega)) (ite_yes rfl h)))))
  · have hr : hamperref20_All.f k S = some ([], 4) := ref_all_no S.size S [] k (Nat.le_refl _) hz (by simp; omega) hno (by omega)
    obtain ⟨x', hb⟩ := back_f k [] (by simp; omega) (by simp)
    exact bind_eq ha (bind_eq hr (ite_yes rfl (bind_eq hb (bind_eq (same_f k _ (by simp; omega) (by simp)) (ite_yes rfl h)))))
theorem tells_all (k : Nat) (hk : 5000 ≤ k) (S : ByteArray) (hz : S.size ≤ 3000) : hamperlaw20_HeadTells.l0 k S 0 = some true := by
  obtain ⟨k, rfl⟩ : ∃ q, k = q + 3 := ⟨k - 3, by omega⟩
  refine tells_round (k + 2) (by omega) S hz _ 0 (by decide) ?_
  rw [show wrap64 (0 + 1) = 1 from wrap_id (by decide) (by decide)]
  refine tells_round (k + 1) (by omega) S hz _ 1 (by decide) ?_
  rw [show wrap64 (1 + 1) = 2 from wrap_id (by decide) (by decide)]
  simp only [hamperlaw20_HeadTells.l0]
  exact ite_no (by decide) (bind_eq awake_yes rfl)
theorem tells_j0 (k : Nat) (hk : 6000 ≤ k) (kind : Int) (body S : ByteArray) (hb : body.size ≤ 3000) (hz : S.size ≤ 3000) : hamperlaw20_HeadTells.j0 k S false kind body = some true := by
  obtain ⟨k, rfl⟩ : ∃ q, k = q + 2 := ⟨k - 2, by omega⟩
  have hmk : ∃ a e, head_Make.f (k + 1) kind body = some (a, e) ∧ hamperref20_Make.f (k + 1) kind body = some (a, e) := by
    by_cases h : 1 ≤ kind ∧ kind ≤ 9
    · exact ⟨_, _, make_ok _ (by omega) kind body ⟨h.1, h.2, by omega⟩, ref_make_ok _ (by omega) kind body ⟨h.1, h.2, by omega⟩⟩
    · exact ⟨_, _, make_kind _ kind body h, ref_make_kind _ kind body h⟩
  obtain ⟨a, e, h1, h2⟩ := hmk
  have hgt : ∃ c d n g, head_Get.f (k + 1) S = some (c, d, n, g) ∧ hamperref20_Get.f (k + 1) S = some (c, d, n, g) := by
    rw [ref_get_same (k + 1) (by omega) S hz]
    rcases get_cases S (by omega) with ⟨kind, body, rest, hf, rfl⟩ | hbad
    · exact ⟨_, _, _, _, get_made _ (by omega) kind body rest hf (by omega), get_made _ (by omega) kind body rest hf (by omega)⟩
    · exact ⟨_, _, _, _, hbad _ (by omega), hbad _ (by omega)⟩
  obtain ⟨c, d, n, g, h3, h4⟩ := hgt
  simp only [hamperlaw20_HeadTells.j0]
  refine ite_no (by decide) (bind_eq h1 (bind_eq h2 (bind_eq h3 (bind_eq h4 (ite_yes rfl (ite_yes rfl (ite_no ?_ (ite_yes rfl ?_))))))))
  · simp
  · show hamperlaw20_HeadTells.j1 (k + 1) S (g != g) = _
    rw [bne_self_eq_false]
    simp only [hamperlaw20_HeadTells.j1]
    exact ite_no (by decide) (tells_all k (by omega) S hz)
theorem tells_true (k : Nat) (kind : Int) (body S : ByteArray) : hamperlaw20_HeadTells.j0 (k + 1) S true kind body = some true := by
  simp only [hamperlaw20_HeadTells.j0]
  exact ite_yes trivial (bind_eq awake_yes rfl)
theorem HeadTells (kind : Int) (body S : ByteArray) : hamperlaw20_HeadTells.f 7000 kind body S = some true := by
  obtain ⟨K, hK⟩ : ∃ K : Nat, K = 6999 := ⟨6999, rfl⟩
  rw [show 7000 = K + 1 by omega]
  unfold hamperlaw20_HeadTells.f
  by_cases h1 : (body.size : Int) > 3000
  · exact ite_yes h1 (tells_true K ..)
  · refine ite_no h1 ?_
    by_cases h2 : (S.size : Int) > 3000
    · rw [decide_eq_true h2]; exact tells_true K ..
    · rw [decide_eq_false h2]; exact tells_j0 (K + 1) (by omega) kind body S (by omega) (by omega)
theorem HeadTells_walk (kind : Int) (body S : ByteArray) (w : World) (_ : (Lit.int .u8 kind).wf = true) (_ : body.size ≤ maxLen) (_ : S.size ≤ 140737488351232) : Calls Try.prog 3 #[.agg #[.int .u8 kind, .string body], .string S] w fun e w' => e = .returned (.bool true) ∧ Below w.heap.size w w' :=
  hamperlaw20_HeadTells.calls 7000 kind body S true w (HeadTells ..)
end Go.Proofs.Ytapdnkmaklpoeaa.Hw
