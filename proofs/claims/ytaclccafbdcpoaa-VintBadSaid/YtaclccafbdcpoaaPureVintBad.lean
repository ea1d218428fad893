/- VintBad, the plain law: what could not be taken makes a reader bad for ever. -/
import Derived.Test.YtaclccafbdcpoaaVr
import Derived.Test.YtaclccafbdcpoaaPVintx25
import Derived.Test.YtaclccafbdcpoaaPVintx21
namespace Go.Proofs.Ytaclccafbdcpoaa.Pure
open Go.RowKit Go.Proofs.Ytaclccafbdcpoaa.PVint Go.Proofs.YtaclccafbdcpoaaW.PrintWords Go.Proofs.YtaclccafbdcpoaaW.PrintLast Go.Proofs.YtaclccafbdcpoaaW.PrintMore Go.Proofs.Ytaclccafbdcpoaa.Vm

theorem place (x : Int) (n : Nat) (hn : n ≤ 3000) :
    ∃ q : Nat, q ≤ n ∧ wrap64 (Int.tmod (IntKind.u64.wrap x) (IntKind.u64.wrap (wrap64 ((n : Int) + 1)))) = (q : Int) ∧ IntKind.u64.wrap (wrap64 ((n : Int) + 1)) ≠ 0 := by
  have h1 : IntKind.u64.wrap (wrap64 ((n : Int) + 1)) = (n : Int) + 1 := by
    rw [wrap_id (by omega) (by omega)]
    show ((n : Int) + 1) % (2 ^ 64) = _
    omega
  have h2 : IntKind.u64.wrap x = x % 18446744073709551616 := rfl
  rw [h1, h2]
  have h3 : 0 ≤ x % 18446744073709551616 := by omega
  generalize x % 18446744073709551616 = y at *
  have h4 := Int.emod_nonneg y (show (n : Int) + 1 ≠ 0 by omega)
  have h5 := Int.emod_lt_of_pos y (show 0 < (n : Int) + 1 by omega)
  refine ⟨(y % ((n : Int) + 1)).toNat, by omega, ?_, by omega⟩
  rw [Int.tmod_eq_emod_of_nonneg h3, wrap_id (by omega) (by omega)]
  omega
theorem bad_j2 (s : ByteArray) (k : Nat) (hk : 5 ≤ k) : hamperlaw18_VintBad.j2 k false s true = some true := by
  obtain ⟨k, rfl⟩ : ∃ q, k = q + 1 := ⟨k - 1, by omega⟩
  simp [hamperlaw18_VintBad.j2, vint_Reader_Number.f, vint_Reader_Text.f, vint_Reader_Long.f, vint_Reader_Left.f, vint_Reader_Good.f, vint_Reader_Done.f, tl_nil, bytesOf_empty]
theorem bad_j1 (s s' : ByteArray) (q : Nat) (hq : q ≤ s.size) (hs : s.size ≤ 3000) (hs' : s'.size = s.size - q) (k : Nat) (hk : 20 ≤ k) : hamperlaw18_VintBad.j1 k s (q : Int) false s' false = some true := by
  obtain ⟨k, rfl⟩ : ∃ q, k = q + 1 := ⟨k - 1, by omega⟩
  simp only [hamperlaw18_VintBad.j1]
  rw [if_neg (by simp), wrap_id (x := (s.size : Int) - (q : Int)) (by omega) (by omega), wrap_id (by omega) (by omega)]
  have e : vint_Reader_Text.f s' false ((s.size : Int) - (q : Int) + 1) = some (⟨#[]⟩, s', true) := by
    unfold vint_Reader_Text.f
    rw [if_neg (by simp), if_neg (by omega), if_pos (by omega)]
  rw [e]
  simp only [Option.bind_some]
  rw [if_pos (by rw [tl_nil]; rfl)]
  simp only [vint_Reader_Good.f, Option.bind_some, Bool.not_true]
  exact bad_j2 s' k (by omega)
theorem bad_j0 (s : ByteArray) (x : Int) (hs : s.size ≤ 3000) (k : Nat) (hk : 30 ≤ k) : hamperlaw18_VintBad.j0 k s x false = some true := by
  obtain ⟨k, rfl⟩ : ∃ q, k = q + 1 := ⟨k - 1, by omega⟩
  obtain ⟨q, hq, hw, hz⟩ := place x s.size hs
  have hz' : (s.extract q s.size).size = s.size - q := by rw [← bytesOf_length, bytesOf_extract, List.length_drop, List.length_take, bytesOf_length]; omega
  simp only [hamperlaw18_VintBad.j0]
  refine ite_no (by simp) (bind_eq (a := (s, false)) rfl (ite_no hz ?_))
  rw [hw]
  refine bind_eq (text_f s q hq) (ite_yes (by omega) (ite_yes (by omega) (ite_yes ?_ ?_)))
  · rw [Int.toNat_natCast]
  · refine bind_eq (left_f _) (ite_yes ?_ (bind_eq (good_f _ _) (bad_j1 s _ q hq hs hz' k (by omega))))
    show ((s.extract q s.size).size : Int) = wrap64 ((s.size : Int) - (q : Int))
    rw [hz', wrap_id (by omega) (by omega)]
    omega
theorem bad_f (s : ByteArray) (x : Int) (k : Nat) (hk : 60 ≤ k) : hamperlaw18_VintBad.f k s x = some true := by
  unfold hamperlaw18_VintBad.f
  by_cases h : (s.size : Int) > 3000
  · rw [if_pos h]
    obtain ⟨k, rfl⟩ : ∃ q, k = q + 1 := ⟨k - 1, by omega⟩
    simp only [hamperlaw18_VintBad.j0]
    exact ite_yes trivial (bind_eq (awake_f k (by omega)) rfl)
  · rw [if_neg h]
    exact bind_eq (awake_f k (by omega)) (bad_j0 s x (by omega) k (by omega))
theorem VintBad : hamperlaw18_VintBad.Pure := fun s x _ _ => ⟨100, bad_f s x 100 (by decide)⟩
end Go.Proofs.Ytaclccafbdcpoaa.Pure
