/- What head.Get and head.All tell of any bytes. -/
import Derived.Test.YtapdnkmaklpoeaaHeadGet
import Derived.Test.YtapdnkmaklpoeaaPHeadx32
namespace Go.Proofs.Ytapdnkmaklpoeaa.Hw
open Go.RowKit Go.Proofs.YtapdnkmaklpoeaaW.PrintWords Go.Proofs.YtapdnkmaklpoeaaW.PrintLast Go.Proofs.YtapdnkmaklpoeaaW.PrintMore Go.Proofs.Ytapdnkmaklpoeaa.PHead
open Go.Proofs.Ytapdnkmaklpoeaa.Vm (enc enc_lt enc_ge enc_pos enc_bytes enc_len9 put_f putR_ok get_f getR getR_cases number_f number_no long_f text_rest left_f good_f)
open Go.Proofs.Ytapdnkmaklpoeaa.Pb
set_option linter.unusedVariables false
set_option linter.unusedSimpArgs false
attribute [local irreducible] made front Bk.blakeSum
theorem nf : ¬ (false = true) := by decide
theorem text_bad (s : ByteArray) (n : Int) : vint_Reader_Text.f s true n = some (⟨#[]⟩, s, true) := by unfold vint_Reader_Text.f; rw [if_pos rfl]
theorem text_over (s : ByteArray) (n : Nat) (h : s.size < n) : vint_Reader_Text.f s false (n : Int) = some (⟨#[]⟩, s, true) := by
  unfold vint_Reader_Text.f
  rw [if_neg (by decide), if_neg (by omega), if_pos (by omega)]
theorem left_bad (s : ByteArray) : vint_Reader_Left.f s true = some (0, s, true) := by simp [vint_Reader_Left.f, vint_Reader_Good.f]
theorem number_bad (k : Nat) (s : ByteArray) : vint_Reader_Number.f k s true = some (0, s, true) := by unfold vint_Reader_Number.f; rw [if_pos rfl]
theorem long_bad (k : Nat) (s : ByteArray) : vint_Reader_Long.f k s true = some (⟨#[]⟩, s, true) := by
  unfold vint_Reader_Long.f
  exact bind_eq (number_bad k s) (bind_eq (text_bad s 0) rfl)
theorem get_bad_long (k : Nat) (S t s1 x s2 : ByteArray) (b : Bool) (ht : vint_Reader_Text.f S false 1 = some (t, s1, b)) (hl : vint_Reader_Long.f k s1 b = some (x, s2, true)) : head_Get.f k S = some (0, ⟨#[]⟩, 0, 4) := by
  unfold head_Get.f
  exact bind_eq rfl (bind_eq ht (bind_eq hl (bind_eq (left_bad s2) (bind_eq (text_bad s2 4) (bind_eq (good_f s2 true) (ite_no nf rfl))))))
theorem get_bad_sum (k : Nat) (S t s1 x s2 : ByteArray) (ht : vint_Reader_Text.f S false 1 = some (t, s1, false)) (hl : vint_Reader_Long.f k s1 false = some (x, s2, false)) (h4 : s2.size < 4) : head_Get.f k S = some (0, ⟨#[]⟩, 0, 4) := by
  unfold head_Get.f
  exact bind_eq rfl (bind_eq ht (bind_eq hl (bind_eq (left_f s2) (bind_eq (text_over s2 4 h4) (bind_eq (good_f s2 true) (ite_no nf rfl))))))
theorem get_bad_end (k : Nat) (S t s1 x s2 u s3 : ByteArray) (ht : vint_Reader_Text.f S false 1 = some (t, s1, false)) (hl : vint_Reader_Long.f k s1 false = some (x, s2, false)) (hu : vint_Reader_Text.f s2 false 4 = some (u, s3, false))
    (ht1 : 0 < (t.size : Int)) (n : Int) (hn : wrap64 ((S.size : Int) - (s2.size : Int)) = n) (h0 : 0 ≤ n) (h1 : n ≤ (S.size : Int)) (d : ByteArray) (hd : blake_Sum.f (S.extract 0 n.toNat) = some d) (hd4 : (4 : Int) ≤ (d.size : Int))
    (hno : ¬ (1 ≤ bt t 0 ∧ bt t 0 ≤ 9 ∧ x.size ≤ 1048576 ∧ (d.extract 0 4).toList = u.toList)) : head_Get.f k S = some (0, ⟨#[]⟩, 0, 4) := by
  subst hn
  unfold head_Get.f
  refine bind_eq rfl (bind_eq ht (bind_eq hl (bind_eq (left_f s2) (bind_eq hu (bind_eq (good_f s3 false) (ite_yes rfl (ite_yes ht1 ?_)))))))
  by_cases c1 : bt t 0 < 1
  · exact ite_yes c1 rfl
  refine ite_no c1 ?_
  by_cases c2 : bt t 0 > 9
  · exact ite_yes c2 rfl
  refine ite_no c2 ?_
  by_cases c3 : (x.size : Int) > 1048576
  · exact ite_yes c3 rfl
  refine ite_no c3 (ite_yes h0 (ite_yes h1 (bind_eq hd (ite_yes (by decide) (ite_yes hd4 (ite_no ?_ rfl))))))
  intro e
  exact hno ⟨Int.not_lt.mp c1, Int.not_lt.mp c2, Int.ofNat_le.mp (Int.not_lt.mp c3), e⟩
theorem size_of_bytes {s : ByteArray} {l : List Int} (h : bytesOf s = l) : s.size = l.length := by rw [← h, bytesOf_length]
theorem split_four (s : ByteArray) (h : 4 ≤ s.size) : ∃ a b : List Int, bytesOf s = a ++ b ∧ a.length = 4 :=
  ⟨(bytesOf s).take 4, (bytesOf s).drop 4, (List.take_append_drop 4 _).symm, by rw [List.length_take, bytesOf_length]; omega⟩
theorem get_cases (S : ByteArray) (hsz : S.size ≤ 140737488351232) :
    (∃ kind body rest, Fit kind body ∧ S = made kind body ++ rest) ∨ (∀ k, 20 ≤ k → head_Get.f k S = some (0, ⟨#[]⟩, 0, 4)) := by
  by_cases h0 : S.size = 0
  · refine .inr fun k _ => ?_
    exact get_bad_long k S ⟨#[]⟩ S ⟨#[]⟩ S true (text_over S 1 (by omega)) (long_bad k S)
  have hb0 : ∃ c l, bytesOf S = [c] ++ l := by
    cases hl : bytesOf S with
    | nil => rw [size_of_bytes hl] at h0; exact absurd rfl h0
    | cons c l => exact ⟨c, l, rfl⟩
  obtain ⟨c, l, hcl⟩ := hb0
  obtain ⟨t, s1, ht, ht1, hs1⟩ := text_rest S [c] l hcl
  have ht' : vint_Reader_Text.f S false 1 = some (t, s1, false) := ht
  rcases getR_cases s1 with hno | ⟨m, rest, hm, hmr, hg⟩
  · refine .inr fun k hk => ?_
    refine get_bad_long k S t s1 ⟨#[]⟩ s1 false ht' ?_
    unfold vint_Reader_Long.f
    exact bind_eq (number_no s1 hno k hk) (bind_eq (text_bad s1 0) rfl)
  have hnum := fun k hk => number_f s1 m hm rest hmr k hk
  by_cases hlen : rest.length < m
  · refine .inr fun k hk => ?_
    obtain ⟨s2, hn2, hs2⟩ := hnum k hk
    refine get_bad_long k S t s1 ⟨#[]⟩ s2 false ht' ?_
    unfold vint_Reader_Long.f
    exact bind_eq hn2 (bind_eq (text_over s2 m (by rw [size_of_bytes hs2]; exact hlen)) rfl)
  have hbody : ∃ body : ByteArray, ∃ rest2 : List Int, rest = bytesOf body ++ rest2 ∧ body.size = m := by
    have hB : Pb.IsBytes (rest.take m) := by
      intro x hx
      have h1 : x ∈ bytesOf s1 := by rw [hmr]; exact List.mem_append_right _ (List.mem_of_mem_take hx)
      exact Pb.isBytes_of s1 x h1
    refine ⟨strOfNums (rest.take m), rest.drop m, ?_, ?_⟩
    · rw [bytesOf_str hB, List.take_append_drop]
    · rw [size_nums, List.length_take]; omega
  obtain ⟨body, rest2, hr, hbm⟩ := hbody
  subst hbm
  rw [hr] at hmr
  have hlong := fun k hk => long_f s1 body hm rest2 hmr k hk
  have hS : bytesOf S = [c] ++ (enc body.size ++ (bytesOf body ++ rest2)) := by rw [hcl, ← hmr, hs1]
  have hcB : IsBytes [c] := by
    intro x hx
    exact Pb.isBytes_of S x (by rw [hcl]; exact List.mem_append_left _ hx)
  have hfront : S = front c body ++ strOfNums rest2 := by
    apply bytesOf_inj
    have hB2 : IsBytes rest2 := by
      intro x hx
      exact Pb.isBytes_of S x (by rw [hS]; exact List.mem_append_right _ (List.mem_append_right _ (List.mem_append_right _ hx)))
    rw [hS, bytesOf_append, bytesOf_str hB2]
    unfold front
    rw [bytesOf_append, bytesOf_append, bytesOf_str hcB, bytesOf_str (enc_bytes _)]
    simp only [List.append_assoc]
  have hfs := front_size c body
  have hSs : S.size = (front c body).size + rest2.length := by
    have := congrArg ByteArray.size hfront
    rw [ByteArray.size_append, size_nums] at this
    exact this
  generalize hF : front c body = F at hfront hfs hSs
  by_cases h4 : rest2.length < 4
  · refine .inr fun k hk => ?_
    obtain ⟨s2, hl2, hs2⟩ := hlong k hk
    exact get_bad_sum k S t s1 body s2 ht' hl2 (by rw [size_of_bytes hs2]; exact h4)
  have hFz : F.size ≤ 140737488351232 := by omega
  have htz : t.size = 1 := size_of_bytes ht1
  have htb : bt t 0 = c := by
    have h2 := bt_bytesOf t 0 (by rw [ht1]; simp)
    rw [show ((0 : Nat) : Int) = 0 from rfl] at h2
    rw [h2]
    simp only [ht1, List.getElem_cons_zero]
  by_cases hok : (1 ≤ c ∧ c ≤ 9 ∧ body.size ≤ 1048576) ∧ bytesOf ((Bk.blakeSum F).extract 0 4) = rest2.take 4
  · refine .inl ⟨c, body, strOfNums (rest2.drop 4), hok.1, ?_⟩
    have hB2 : IsBytes rest2 := by
      intro x hx
      exact Pb.isBytes_of S x (by rw [hS]; exact List.mem_append_right _ (List.mem_append_right _ (List.mem_append_right _ hx)))
    have hB3 : IsBytes (rest2.drop 4) := fun x hx => hB2 x (List.mem_of_mem_drop hx)
    rw [hfront]
    unfold made
    rw [hF, app_assoc]
    congr 1
    apply bytesOf_inj
    rw [bytesOf_append, bytesOf_str hB2, bytesOf_str hB3, hok.2, List.take_append_drop]
  · refine .inr fun k hk => ?_
    obtain ⟨s2, hl2, hs2⟩ := hlong k hk
    have hs2z : s2.size = rest2.length := size_of_bytes hs2
    obtain ⟨a, b, hab, ha4⟩ := split_four s2 (by omega)
    obtain ⟨u, s3, hu, hu1, hs3⟩ := text_rest s2 a b hab
    rw [ha4] at hu
    have hn : wrap64 ((S.size : Int) - (s2.size : Int)) = (F.size : Int) := by rw [wrap_id (by omega) (by omega)]; omega
    refine get_bad_end k S t s1 body s2 u s3 ht' hl2 hu (by rw [htz]; decide) _ hn (Int.natCast_nonneg _) (by omega) (Bk.blakeSum F) ?_ (by rw [Bk.blakeSum_size]; decide) ?_
    · rw [Int.toNat_natCast, hfront, ext_app_left]
      exact sum_f F hFz
    · rintro ⟨q1, q2, q3, q4⟩
      rw [htb] at q1 q2
      refine hok ⟨⟨q1, q2, q3⟩, ?_⟩
      rw [tl_iff.mp q4, hu1]
      have : bytesOf s2 = rest2 := hs2
      rw [← this, hab, ← ha4, List.take_left]
/-- Headers, one behind the other. -/
def catH : List S23 → ByteArray
  | [] => ⟨#[]⟩
  | x :: L => made x.f0 x.f1 ++ catH L
/-- May they all be? -/
def AllFit (L : List S23) : Prop := ∀ x ∈ L, Fit x.f0 x.f1
theorem AllFit.cons {x : S23} {L : List S23} : AllFit (x :: L) ↔ Fit x.f0 x.f1 ∧ AllFit L := by simp [AllFit]
theorem AllFit.append {a b : List S23} (ha : AllFit a) (hb : AllFit b) : AllFit (a ++ b) := by
  intro x hx
  rcases List.mem_append.mp hx with h | h
  · exact ha x h
  · exact hb x h
theorem catH_append (a b : List S23) : catH (a ++ b) = catH a ++ catH b := by
  induction a with
  | nil => simp only [List.nil_append, catH, nil_app]
  | cons x a ih => simp only [List.cons_append, catH, ih, app_assoc]
theorem made_pos (kind : Int) (body : ByteArray) : 5 ≤ (made kind body).size := by rw [made_size]; omega
/-- What begins by a header begins by no other one. -/
theorem made_head {k1 k2 : Int} {b1 b2 r1 r2 : ByteArray} (h1 : Fit k1 b1) (h2 : Fit k2 b2) (e : made k1 b1 ++ r1 = made k2 b2 ++ r2) (hz : (made k1 b1 ++ r1).size ≤ 140737488351232) : k1 = k2 ∧ b1 = b2 ∧ r1 = r2 := by
  have g1 := get_made 20 (Nat.le_refl _) k1 b1 r1 h1 hz
  have g2 := get_made 20 (Nat.le_refl _) k2 b2 r2 h2 (by rw [← e]; exact hz)
  rw [e, g2] at g1
  simp only [Option.some.injEq, Prod.mk.injEq] at g1
  obtain ⟨rfl, rfl, _, _⟩ := g1
  exact ⟨rfl, rfl, (app_inj e rfl).2⟩
theorem get_no {S : ByteArray} (hz : S.size ≤ 140737488351232) (h : head_Get.f 20 S = some (0, ⟨#[]⟩, 0, 4)) (kind : Int) (body rest : ByteArray) (hf : Fit kind body) : S ≠ made kind body ++ rest := by
  intro e
  have g := get_made 20 (Nat.le_refl _) kind body rest hf (by rw [← e]; exact hz)
  rw [← e, h] at g
  simp at g
theorem all_l0 : ∀ (n : Nat) (S : ByteArray) (acc : List S23), S.size ≤ n → n ≤ 140737488351232 → acc.length + n < 5864062014805 → ∀ k, n + 21 ≤ k →
    (∃ L, AllFit L ∧ S = catH L ∧ head_All.l0 k S acc = some (acc ++ L, 0)) ∨ ((∀ L, AllFit L → S ≠ catH L) ∧ head_All.l0 k S acc = some ([], 4)) := by
  intro n
  induction n with
  | zero =>
    intro S acc hS _ _ k hk
    obtain ⟨k, rfl⟩ : ∃ m, k = m + 1 := ⟨k - 1, by omega⟩
    have e : S = ⟨#[]⟩ := size_zero (by omega)
    subst e
    refine .inl ⟨[], by simp [AllFit], rfl, ?_⟩
    simp only [head_All.l0]
    refine bind_eq (get_bad_long k ⟨#[]⟩ ⟨#[]⟩ ⟨#[]⟩ ⟨#[]⟩ ⟨#[]⟩ true (text_over ⟨#[]⟩ 1 (by decide)) (long_bad k ⟨#[]⟩)) (ite_no (by decide) (ite_yes (tl_nil _ |>.mpr rfl) ?_))
    rw [List.append_nil]
  | succ n ih =>
    intro S acc hS hn hacc k hk
    obtain ⟨k, rfl⟩ : ∃ m, k = m + 1 := ⟨k - 1, by omega⟩
    have hz : S.size ≤ 140737488351232 := by omega
    rcases get_cases S hz with ⟨kind, body, rest, hf, e⟩ | hno
    · have hg := get_made k (by omega) kind body rest hf (by rw [← e]; exact hz)
      have hms := made_pos kind body
      have hss : S.size = (made kind body).size + rest.size := by rw [e, ByteArray.size_append]
      have hx : S.extract (((made kind body).size : Int)).toNat S.size = rest := by
        rw [Int.toNat_natCast]
        rw [e]
        exact ext_app_right _ _
      rw [← e] at hg
      have hstep : head_All.l0 (k + 1) S acc = head_All.l0 k rest (acc ++ [⟨kind, body⟩]) := by
        simp only [head_All.l0]
        refine bind_eq hg (ite_yes rfl (ite_yes (by omega) (ite_yes (Int.natCast_nonneg _) (ite_yes (by show ((made kind body).size : Int) ≤ (S.size : Int); omega) ?_))))
        show head_All.l0 k (S.extract (((made kind body).size : Int)).toNat S.size) (acc ++ [⟨kind, body⟩]) = _
        rw [hx]
      rw [hstep]
      rcases ih rest (acc ++ [⟨kind, body⟩]) (by omega) (by omega) (by rw [List.length_append, List.length_singleton]; omega) k (by omega) with ⟨L, hL, hr, hl⟩ | ⟨hL, hl⟩
      · refine .inl ⟨⟨kind, body⟩ :: L, AllFit.cons.mpr ⟨hf, hL⟩, ?_, ?_⟩
        · rw [e, hr]; rfl
        · rw [hl, List.append_assoc, List.singleton_append]
      · refine .inr ⟨?_, hl⟩
        intro L hfL eL
        cases L with
        | nil =>
          have : S.size = 0 := by rw [eL]; rfl
          omega
        | cons x L =>
          obtain ⟨hx1, hx2⟩ := AllFit.cons.mp hfL
          rw [catH, e] at eL
          obtain ⟨_, _, h3⟩ := made_head hf hx1 eL (by rw [← e]; exact hz)
          exact hL L hx2 h3
    · have hg := hno k (by omega)
      by_cases h0 : S = ⟨#[]⟩
      · subst h0
        refine .inl ⟨[], by simp [AllFit], rfl, ?_⟩
        simp only [head_All.l0]
        refine bind_eq hg (ite_no (by decide) (ite_yes (tl_nil _ |>.mpr rfl) ?_))
        rw [List.append_nil]
      · refine .inr ⟨?_, ?_⟩
        · intro L hfL eL
          cases L with
          | nil => exact h0 eL
          | cons x L =>
            obtain ⟨hx1, hx2⟩ := AllFit.cons.mp hfL
            exact get_no hz (hno 20 (Nat.le_refl _)) x.f0 x.f1 (catH L) hx1 eL
        · simp only [head_All.l0]
          exact bind_eq hg (ite_no (by decide) (ite_no (fun q => h0 ((tl_nil _).mp q)) rfl))
theorem all_f (S : ByteArray) (hz : S.size ≤ 1000000) (k : Nat) (hk : S.size + 21 ≤ k) :
    (∃ L, AllFit L ∧ S = catH L ∧ head_All.f k S = some (L, 0)) ∨ ((∀ L, AllFit L → S ≠ catH L) ∧ head_All.f k S = some ([], 4)) := by
  have h := all_l0 S.size S [] (Nat.le_refl _) (by omega) (by simp; omega) k hk
  simp only [List.nil_append] at h
  exact h
/-- One row of headers begins another one: what is behind are headers too. -/
theorem catH_prefix : ∀ (a : List S23) (t : ByteArray) (c : List S23), AllFit a → AllFit c → catH a ++ t = catH c → (catH c).size ≤ 140737488351232 → ∃ b, AllFit b ∧ c = a ++ b ∧ t = catH b := by
  intro a
  induction a with
  | nil => intro t c _ hc e _; exact ⟨c, hc, rfl, by rw [← e]; exact (nil_app t).symm⟩
  | cons x a ih =>
    intro t c ha hc e hz
    obtain ⟨hx, ha⟩ := AllFit.cons.mp ha
    cases c with
    | nil =>
      exfalso
      have := congrArg ByteArray.size e
      simp only [catH, ByteArray.size_append] at this
      have h5 := made_pos x.f0 x.f1
      have h0 : (⟨#[]⟩ : ByteArray).size = 0 := rfl
      omega
    | cons y c =>
      obtain ⟨hy, hc⟩ := AllFit.cons.mp hc
      rw [catH, catH, app_assoc] at e
      rw [catH] at hz
      obtain ⟨e1, e2, e3⟩ := made_head hx hy e (by rw [e]; exact hz)
      obtain ⟨b, hb, rfl, ht⟩ := ih t c ha hc e3 (by rw [ByteArray.size_append] at hz; omega)
      refine ⟨b, hb, ?_, ht⟩
      rcases x with ⟨x0, x1⟩
      rcases y with ⟨y0, y1⟩
      simp only at e1 e2
      subst e1 e2
      rfl
end Go.Proofs.Ytapdnkmaklpoeaa.Hw
