/- MatchNames: the closed statement answers true. -/
import Derived.Test.YtaooiffnpnmdeaaMtO
import Derived.Test.YtaooiffnpnmdeaaNmR0
import Derived.Test.YtaooiffnpnmdeaaPMtx11
import Derived.Test.YtaooiffnpnmdeaaPMtx12
import Derived.Test.YtaooiffnpnmdeaaPMtx10
namespace Go.Proofs.Ytaooiffnpnmdeaa.PMt
open Go.RowKit Go.Proofs.YtaooiffnpnmdeaaW.PrintWords Go.Proofs.YtaooiffnpnmdeaaW.PrintLast Go.Proofs.YtaooiffnpnmdeaaW.PrintMore
set_option linter.unusedVariables false
set_option maxRecDepth 100000
def lt_ (s : ByteArray) : List S27 := s.data.toList.map fun c => ⟨1, (c.toNat : Int), 0, 0, 0⟩
theorem lits_k {k : Nat} {s : ByteArray} {v : List S27} (hk : 60 ≤ k) (h : hamperlaw15_lits.f 60 s = some v) : hamperlaw15_lits.f k s = some v := at_rounds (hamperlaw15_lits.mono s) hk h
theorem is_k {k : Nat} {s : ByteArray} {l : List S27} (hk : 60 ≤ k) (h : hamperlaw15_is.f 60 s l = some true) : hamperlaw15_is.f k s l = some true := at_rounds (hamperlaw15_is.mono s l) hk h
theorem lits0 : hamperlaw15_lits.f 60 ⟨#[97, 98]⟩ = some (lt_ ⟨#[97, 98]⟩) := by kernel_rfl
theorem lits1 : hamperlaw15_lits.f 60 ⟨#[97, 98, 99, 49]⟩ = some (lt_ ⟨#[97, 98, 99, 49]⟩) := by kernel_rfl
theorem lits2 : hamperlaw15_lits.f 60 ⟨#[50, 51]⟩ = some (lt_ ⟨#[50, 51]⟩) := by kernel_rfl
theorem lits3 : hamperlaw15_lits.f 60 ⟨#[97, 98, 99, 88, 98, 99, 100, 101, 102, 89, 97]⟩ = some (lt_ ⟨#[97, 98, 99, 88, 98, 99, 100, 101, 102, 89, 97]⟩) := by kernel_rfl
theorem lits4 : hamperlaw15_lits.f 60 ⟨#[50]⟩ = some (lt_ ⟨#[50]⟩) := by kernel_rfl
theorem is0 : hamperlaw15_is.f 60 ⟨#[97, 98]⟩ (lt_ ⟨#[97, 98]⟩) = some true := by decide +kernel
theorem is1 : hamperlaw15_is.f 60 ⟨#[97, 98, 99, 49, 97, 98, 99, 50, 51, 97, 98, 99]⟩ (((lt_ ⟨#[97, 98, 99, 49]⟩ ++ [⟨2, 0, 3, 4, 0⟩]) ++ lt_ ⟨#[50, 51]⟩) ++ [⟨2, 0, 3, 5, 0⟩]) = some true := by decide +kernel
theorem is2 : hamperlaw15_is.f 60 ⟨#[97, 98, 99, 88, 98, 99, 100, 101, 102, 89, 97, 98, 99, 100, 101, 102]⟩ (lt_ ⟨#[97, 98, 99, 88, 98, 99, 100, 101, 102, 89, 97]⟩ ++ [⟨2, 0, 5, 7, 0⟩]) = some true := by decide +kernel
theorem is3 : hamperlaw15_is.f 60 ⟨#[97, 98, 99, 49, 97, 98, 99, 50, 97, 98, 99]⟩ (((lt_ ⟨#[97, 98, 99, 49]⟩ ++ [⟨2, 0, 3, 4, 0⟩]) ++ lt_ ⟨#[50]⟩) ++ [⟨3, 0, 3, 0, 0⟩]) = some true := by decide +kernel
theorem len_lt {l : List S27} {n : Nat} (h : l.length = n) (h2 : n < 4398046511104) : l.length < 4398046511104 := by omega
theorem find_at {s : ByteArray} (h : s.size ≤ 80000) : match_Find.f s = some ((Mt.findS s).map tokR) := by
  unfold match_Find.f
  rw [if_pos h]
theorem long1 : match_Longest.f ⟨#[97, 98, 99, 97, 98, 99]⟩ (-1) = some (0, 0) := by decide +kernel
theorem long2 : match_Longest.f ⟨#[97, 98, 99, 97, 98, 99]⟩ 6 = some (0, 0) := by decide +kernel
theorem long3 : match_Longest.f ⟨#[97, 98, 99, 97, 98, 99]⟩ 3 = some (3, 3) := by decide +kernel
theorem long4 : match_Longest.f ⟨#[97, 98, 99, 97, 98]⟩ 3 = some (0, 0) := by decide +kernel
theorem names_j0 (k : Nat) (hk : 40000 ≤ k) : hamperlaw15_MatchNamesR.j0 (k + 1) false = some true := by
  rw [hamperlaw15_MatchNamesR.j0, if_neg Bool.false_ne_true]
  have h60 : 60 ≤ k := by omega
  refine Mt.bind_eq (lits_k h60 lits1) ?_
  refine Mt.bind_eq (a := (2, 0, 3, 4, 0)) rfl ?_
  rw [if_pos (len_lt (n := 4) rfl (by decide))]
  refine Mt.bind_eq rfl ?_
  refine Mt.bind_eq (lits_k h60 lits2) ?_
  rw [if_pos (by decide +kernel)]
  refine Mt.bind_eq rfl ?_
  refine Mt.bind_eq (a := (2, 0, 3, 5, 0)) rfl ?_
  rw [if_pos (len_lt (n := 7) rfl (by decide))]
  refine Mt.bind_eq (is_k h60 is1) ?_
  rw [if_pos rfl]
  refine Mt.bind_eq (lits_k h60 lits3) ?_
  refine Mt.bind_eq (a := (2, 0, 5, 7, 0)) rfl ?_
  rw [if_pos (len_lt (n := 11) rfl (by decide))]
  refine Mt.bind_eq (is_k h60 is2) ?_
  rw [if_pos rfl]
  refine Mt.bind_eq (lits_k h60 lits1) ?_
  refine Mt.bind_eq (a := (2, 0, 3, 4, 0)) rfl ?_
  rw [if_pos (len_lt (n := 4) rfl (by decide))]
  refine Mt.bind_eq rfl ?_
  refine Mt.bind_eq (lits_k h60 lits4) ?_
  rw [if_pos (by decide +kernel)]
  refine Mt.bind_eq rfl ?_
  rw [if_pos (len_lt (n := 6) rfl (by decide))]
  refine Mt.bind_eq (is_k h60 is3) ?_
  rw [if_pos rfl]
  obtain ⟨m1, e1, o1⟩ := Mt.many_f 97 260 k (by decide) (by omega)
  obtain ⟨m2, e2, o2⟩ := Mt.many_f 97 261 k (by decide) (by omega)
  obtain ⟨m3, e3, o3⟩ := Mt.many_f 45 32765 k (by decide) (by omega)
  obtain ⟨m4, e4, o4⟩ := Mt.many_f 45 32766 k (by decide) (by omega)
  have z1 := o1.size
  have z2 := o2.size
  have z3 := o3.size
  have z4 := o4.size
  have y3 : ((⟨#[120, 121, 122]⟩ : ByteArray) ++ m3).size = 3 + m3.size := ByteArray.size_append
  have y4 : ((⟨#[120, 121, 122]⟩ : ByteArray) ++ m4).size = 3 + m4.size := ByteArray.size_append
  refine Mt.bind_eq e1 ?_
  refine Mt.bind_eq (find_at (by omega)) ?_
  refine Mt.bind_eq e2 ?_
  refine Mt.bind_eq (find_at (by omega)) ?_
  refine Mt.bind_eq e3 ?_
  rw [if_pos (by omega), if_pos (by omega)]
  refine Mt.bind_eq (Mt.far_one o3) ?_
  refine Mt.bind_eq e4 ?_
  rw [if_pos (by omega), if_pos (by omega)]
  refine Mt.bind_eq (Mt.far_two o4) ?_
  refine Mt.bind_eq long1 ?_
  refine Mt.bind_eq long2 ?_
  refine Mt.bind_eq long3 ?_
  refine Mt.bind_eq long4 ?_
  rw [o1.find260, o2.find261]
  refine (if_pos (show (3 : Int) = 3 from rfl)).trans ?_
  refine (if_pos (show (1 : Int) < 3 by decide)).trans ?_
  refine Mt.bind_eq (a := (2, 0, 258, 1, 0)) rfl ?_
  rfl
theorem names_all (k : Nat) (hk : 40000 ≤ k) : hamperlaw15_MatchNamesR.f (k + 1) = some true := by
  unfold hamperlaw15_MatchNamesR.f
  refine Mt.bind_eq (Mt.works_f _ (by omega)) ?_
  rw [if_pos rfl]
  refine Mt.bind_eq (a := []) (by rfl) ?_
  refine (if_pos (show (0 : Int) = 0 from rfl)).trans ?_
  refine Mt.bind_eq (lits_k (by omega) lits0) ?_
  refine Mt.bind_eq (is_k (by omega) is0) ?_
  exact names_j0 k hk
end Go.Proofs.Ytaooiffnpnmdeaa.PMt
