/- HeadBack: Get of Make, whatever stands behind, is the header; Make of what Get tells are the bytes that it used; All of headers' bytes are these headers; what is cut is none. -/
import Derived.Test.YtapdnkmaklpoeaaHeadAll
import Derived.Test.YtapdnkmaklpoeaaPHeadx36
namespace Go.Proofs.Ytapdnkmaklpoeaa.Pure
open Go.RowKit Go.Proofs.Ytapdnkmaklpoeaa.PHead Go.Proofs.YtapdnkmaklpoeaaW.PrintWords Go.Proofs.YtapdnkmaklpoeaaW.PrintLast Go.Proofs.YtapdnkmaklpoeaaW.PrintMore Go.Proofs.Ytapdnkmaklpoeaa.Pb Go.Proofs.Ytapdnkmaklpoeaa.Hw
set_option linter.unusedVariables false
set_option linter.unusedSimpArgs false
attribute [local irreducible] made front Bk.blakeSum
theorem same_no {x y : S23} (h : x = y) : ¬ ((!(x.f0 == y.f0) || !(x.f1.toList == y.f1.toList)) = true) := by subst h; simp
theorem back_l1 (l : List S23) (s : ByteArray) (hl : l.length ≤ 20) (hs : s.size ≤ 3000) : ∀ (d i k : Nat), i + d = l.length → d + 40 ≤ k → hamperlaw20_HeadBack.l1 k l s (l.length : Int) l (i : Int) = some true := by
  intro d
  induction d with
  | zero =>
    intro i k hi hk
    obtain ⟨k, rfl⟩ : ∃ m, k = m + 1 := ⟨k - 1, by omega⟩
    simp only [hamperlaw20_HeadBack.l1]
    refine ite_no (by omega) ?_
    rcases get_cases s (by omega) with ⟨kind, body, rest, hf, e⟩ | hno
    · have hg := get_made k (by omega) kind body rest hf (by rw [← e]; omega)
      rw [← e] at hg
      have hm := make_ok k (by omega) kind body hf
      have hss : s.size = (made kind body).size + rest.size := by rw [e, ByteArray.size_append]
      have hx : s.extract 0 (((made kind body).size : Int)).toNat = made kind body := by
        rw [Int.toNat_natCast, e]
        exact ext_app_left _ _
      refine bind_eq hg (ite_yes rfl (bind_eq hm (ite_yes rfl (ite_yes ?_ (ite_yes (Int.natCast_nonneg _) ?_)))))
      · show ((made kind body).size : Int) ≤ (s.size : Int)
        omega
      · show some ((made kind body).toList == (s.extract 0 (((made kind body).size : Int)).toNat).toList) = some true
        rw [hx, tl_beq, decide_eq_true rfl]
    · refine bind_eq (hno k (by omega)) (ite_no (by decide) (ite_yes ?_ rfl))
      show ((0 : Int) == 0 && ((⟨#[]⟩ : ByteArray).toList == ([] : List UInt8))) = true
      rw [ByteArray.toList_eq]
      rfl
  | succ d ih =>
    intro i k hi hk
    obtain ⟨k, rfl⟩ : ∃ m, k = m + 1 := ⟨k - 1, by omega⟩
    have hstep : hamperlaw20_HeadBack.l1 k l s (l.length : Int) l (wrap64 ((i : Int) + 1)) = some true := by
      rw [wrap_id (by omega) (by omega)]
      exact ih (i + 1) k (by omega) (by omega)
    simp only [hamperlaw20_HeadBack.l1]
    exact ite_yes (by omega) (ite_yes (by omega) (ite_yes (by omega) (ite_yes (by omega) (ite_no (same_no rfl) hstep))))
theorem cut_at (x : Int) (n : Nat) (hn : 0 < n) (hb : n ≤ 1000000) : IntKind.u64.wrap (n : Int) ≠ 0 ∧ ∃ q : Nat, q < n ∧ wrap64 (Int.tmod (IntKind.u64.wrap x) (IntKind.u64.wrap (n : Int))) = (q : Int) := by
  have h1 : IntKind.u64.wrap (n : Int) = (n : Int) := by
    show (n : Int) % 18446744073709551616 = _
    omega
  have h2 : IntKind.u64.wrap x = x % 18446744073709551616 := rfl
  rw [h1, h2]
  refine ⟨by omega, ?_⟩
  have h3 : (0 : Int) ≤ x % 18446744073709551616 := Int.emod_nonneg _ (by decide)
  generalize x % 18446744073709551616 = y at h3
  rw [Int.tmod_eq_emod_of_nonneg h3]
  have h4 := Int.emod_nonneg y (show (n : Int) ≠ 0 by omega)
  have h5 := Int.emod_lt_of_pos y (show (0 : Int) < (n : Int) by omega)
  exact ⟨(y % (n : Int)).toNat, by omega, by rw [wrap_id (by omega) (by omega)]; omega⟩
theorem cut_no (kind : Int) (body : ByteArray) (hf : Fit kind body) (q : Nat) (hq : q < (made kind body).size) (hz : (made kind body).size ≤ 140737488351232) (k : Nat) (hk : 20 ≤ k) : head_Get.f k ((made kind body).extract 0 q) = some (0, ⟨#[]⟩, 0, 4) := by
  have hxs : ((made kind body).extract 0 q).size = q := by rw [size_ext _ _ _ (by omega)]; omega
  rcases get_cases ((made kind body).extract 0 q) (by omega) with ⟨kind', body', rest', hf', e⟩ | hno
  · exfalso
    have e2 : (made kind body).extract 0 q ++ (made kind body).extract q (made kind body).size = made kind body := by
      rw [ByteArray.extract_append_extract]
      rw [Nat.min_eq_left (Nat.zero_le _), Nat.max_eq_right (by omega)]
      exact ext_all _
    rw [e, app_assoc] at e2
    have e3 : made kind body ++ ⟨#[]⟩ = made kind' body' ++ (rest' ++ (made kind body).extract q (made kind body).size) := by rw [app_nil, e2]
    obtain ⟨h1, h2, _⟩ := made_head hf hf' e3 (by rw [app_nil]; exact hz)
    subst h1 h2
    rw [e, ByteArray.size_append] at hxs
    omega
  · exact hno k hk
theorem rd_get (l : List S23) (i : Nat) (h : i < l.length) : rd_T23 l (i : Int) = l[i] := by
  unfold rd_T23
  rw [Int.toNat_natCast, List.getD_eq_getElem?_getD, List.getElem?_eq_getElem h, Option.getD_some]
theorem back_l0 (l : List S23) (s : ByteArray) (cut : Int) (hl : l.length ≤ 20) (hs : s.size ≤ 3000) : ∀ (d i k : Nat), i + d = l.length → 2 * d + 20000 ≤ k → AllFit (l.take i) → (catH (l.take i)).size ≤ i * 600 →
    hamperlaw20_HeadBack.l0 k l s cut (catH (l.take i)) (i : Int) (i : Int) = some true := by
  intro d
  induction d with
  | zero =>
    intro i k hi hk hf hz
    obtain ⟨k, rfl⟩ : ∃ m, k = m + 2 := ⟨k - 2, by omega⟩
    have ht : l.take i = l := List.take_of_length_le (by omega)
    rw [ht] at hf hz ⊢
    have hil : (i : Int) = (l.length : Int) := by omega
    have hlast : hamperlaw20_HeadBack.j3 (k + 1) l s (l.length : Int) l false = some true := by
      simp only [hamperlaw20_HeadBack.j3]
      exact ite_no (by decide) (back_l1 l s hl hs l.length 0 k (by omega) (by omega))
    rw [hamperlaw20_HeadBack.l0, hil]
    refine ite_no (by omega) ?_
    rcases all_f (catH l) (by omega) (k + 1) (by omega) with ⟨L, hL, eL, gL⟩ | ⟨nL, _⟩
    · have e : L = l := by
        obtain ⟨c, hc, h1, h2⟩ := catH_prefix L ⟨#[]⟩ l hL hf (by rw [app_nil]; exact eL.symm) (by omega)
        cases c with
        | nil => rw [h1, List.append_nil]
        | cons x c =>
          exfalso
          have := congrArg ByteArray.size h2
          rw [catH, ByteArray.size_append] at this
          have h5 := made_pos x.f0 x.f1
          have h0 : (⟨#[]⟩ : ByteArray).size = 0 := rfl
          omega
      subst e
      refine bind_eq gL (ite_yes rfl ?_)
      show hamperlaw20_HeadBack.j3 (k + 1) L s (L.length : Int) L ((L.length : Int) != (L.length : Int)) = some true
      rw [bne_self_eq_false]
      exact hlast
    · exact absurd rfl (nL l hf)
  | succ d ih =>
    intro i k hi hk hf hz
    obtain ⟨k, rfl⟩ : ∃ m, k = m + 2 := ⟨k - 2, by omega⟩
    have hil : i < l.length := by omega
    rw [hamperlaw20_HeadBack.l0]
    refine ite_yes (by omega) (ite_yes (by omega) ?_)
    rw [rd_get l i hil]
    by_cases hbig : ((l[i].f1).size : Int) > 500
    · exact ite_yes hbig rfl
    refine ite_no hbig ?_
    by_cases hkind : 1 ≤ l[i].f0 ∧ l[i].f0 ≤ 9
    · have hfit : Fit l[i].f0 l[i].f1 := ⟨hkind.1, hkind.2, by omega⟩
      have hms := made_size l[i].f0 l[i].f1
      have he := Go.Proofs.Ytapdnkmaklpoeaa.Vm.enc_len9 (n := (l[i].f1).size) (by omega)
      have hp := made_pos l[i].f0 l[i].f1
      have hap : (made l[i].f0 l[i].f1 ++ s).size = (made l[i].f0 l[i].f1).size + s.size := ByteArray.size_append
      have hg := get_made (k + 1) (by omega) l[i].f0 l[i].f1 s hfit (by omega)
      have htk : l.take (i + 1) = l.take i ++ [l[i]] := by rw [List.take_succ_eq_append_getElem hil]
      have hcat : catH (l.take (i + 1)) = catH (l.take i) ++ made l[i].f0 l[i].f1 := by rw [htk, catH_append, catH, catH, app_nil]
      have hcs : (catH (l.take i) ++ made l[i].f0 l[i].f1).size = (catH (l.take i)).size + (made l[i].f0 l[i].f1).size := ByteArray.size_append
      have hf1 : AllFit (l.take (i + 1)) := by
        rw [htk]
        exact hf.append (fun x hx => by rw [List.mem_singleton] at hx; rw [hx]; exact hfit)
      have hnext : hamperlaw20_HeadBack.l0 k l s cut (catH (l.take i) ++ made l[i].f0 l[i].f1) (wrap64 ((i : Int) + 1)) (wrap64 ((i : Int) + 1)) = some true := by
        rw [wrap_id (by omega) (by omega), ← hcat]
        exact ih (i + 1) k (by omega) (by omega) hf1 (by rw [hcat, hcs]; omega)
      refine bind_eq (make_ok (k + 1) (by omega) _ _ hfit) (ite_yes rfl (ite_yes (by show (made l[i].f0 l[i].f1).size + s.size ≤ 9223372036854775807; omega) (bind_eq hg (ite_yes rfl (ite_no ?_ ?_)))))
      · show ¬ ((!(l[i].f0 == l[i].f0) || !(l[i].f1.toList == l[i].f1.toList)) = true)
        exact same_no rfl
      · show hamperlaw20_HeadBack.j2 (k + 1) l s cut (catH (l.take i)) (i : Int) (i : Int) (made l[i].f0 l[i].f1) (((made l[i].f0 l[i].f1).size : Int) != ((made l[i].f0 l[i].f1).size : Int)) = some true
        rw [bne_self_eq_false]
        obtain ⟨hu, q, hq, hw⟩ := cut_at cut (made l[i].f0 l[i].f1).size (by omega) (by omega)
        rw [hamperlaw20_HeadBack.j2]
        refine ite_no (by decide) (ite_no hu ?_)
        rw [hw]
        refine ite_yes (Int.natCast_nonneg _) (ite_yes (by omega) (bind_eq (by rw [Int.toNat_natCast]; exact cut_no _ _ hfit q hq (by omega) k (by omega)) (ite_yes rfl (ite_yes (by omega) hnext))))
    · refine bind_eq (make_kind k _ _ hkind) (ite_no (by decide) ?_)
      by_cases c1 : l[i].f0 ≥ 1
      · refine ite_yes c1 (ite_no (fun c2 => hkind ⟨c1, c2⟩) (ite_yes (tl_nil _ |>.mpr rfl) rfl))
      · exact ite_no c1 (ite_yes (tl_nil _ |>.mpr rfl) rfl)
theorem j0_true (k : Nat) (l : List S23) (a : ByteArray) (c : Int) : hamperlaw20_HeadBack.j0 (k + 1) l a c true = some true := by
  simp only [hamperlaw20_HeadBack.j0]
  exact ite_yes trivial (bind_eq awake_yes rfl)
theorem HeadBack (l : List S23) (a : ByteArray) (c : Int) : ∃ k, hamperlaw20_HeadBack.f k l a c = some true := by
  obtain ⟨K, hK⟩ : ∃ K : Nat, 20100 ≤ K := ⟨20100, Nat.le_refl _⟩
  refine ⟨K + 1, ?_⟩
  unfold hamperlaw20_HeadBack.f
  by_cases h1 : (l.length : Int) > 20
  · exact ite_yes h1 (j0_true K l a c)
  refine ite_no h1 ?_
  by_cases h2 : (a.size : Int) > 3000
  · exact ite_yes h2 (j0_true K l a c)
  refine ite_no h2 (bind_eq awake_yes ?_)
  simp only [hamperlaw20_HeadBack.j0]
  exact ite_no (by decide) (back_l0 l a c (by omega) (by omega) l.length 0 K (by omega) (by omega) (by simp [AllFit]) (Nat.le_refl _))
/-- The law's walk, for its row. -/
theorem backWalk (A0 : Option Addr) (c0 : Nat) (l0 : List S23) (a1 : ByteArray) (a2 : Int) (w : World) (hr0 : Kd.C k23 w A0 l0.length l0) (hc0 : l0.length ≤ c0) (_ : ∀ p ∈ l0, (Lit.int .u8 p.f0).wf = true) (_ : a1.size ≤ 140737488351232) (_ : (Lit.int .i64 a2).wf = true) :
    Calls Try.prog 5 #[.slice A0 l0.length c0, .string a1, .int .i64 a2] w fun e w' => e = .returned (.bool true) ∧ Below w.heap.size w w' := by
  obtain ⟨k, h⟩ := HeadBack l0 a1 a2
  exact hamperlaw20_HeadBack.calls k A0 c0 l0 a1 a2 true w hr0 hc0 h
end Go.Proofs.Ytapdnkmaklpoeaa.Pure
