import Derived.Test.YtaooiffnpnmdeaaPMtx0
import Derived.Test.YtaooiffnpnmdeaaPMtx14
import Derived.Test.YtaooiffnpnmdeaaPMtx19
-- Made by a program of this session (wip/tools/trueonly.py, trueflat.py) out of the seat's translation.
namespace Go.Proofs.Ytaooiffnpnmdeaa.PMt
open Go.RowKit Go.Proofs.YtaooiffnpnmdeaaW.PrintWords Go.Proofs.YtaooiffnpnmdeaaW.PrintLast Go.Proofs.YtaooiffnpnmdeaaW.PrintMore
attribute [local go_sem] max2_int min2_int max_two min_two max_three min_three max_four min_four
attribute [local go_sem high] eqA27
set_option linter.unusedVariables false
set_option linter.unusedSimpArgs false
def hamperlaw15_MatchNamesR.j0 : Nat → Bool → Option (Bool)
  | 0, _ => none
  | k + 1, x32 => if x32 = true then (some false) else ((hamperlaw15_lits.f k (⟨#[97, 98, 99, 49]⟩ : ByteArray)).bind fun t176 => ((hamperlaw15_far.f 3 4).bind fun bt179 => (if t176.length < 4398046511104 then ((some (t176 ++ [(⟨bt179.1, bt179.2.1, bt179.2.2.1, bt179.2.2.2.1, bt179.2.2.2.2⟩ : S27)] : List (S27))).bind fun y184 => ((hamperlaw15_lits.f k (⟨#[50, 51]⟩ : ByteArray)).bind fun t187 => (if y184.length + t187.length < 4398046511104 then ((some (y184 ++ t187 : List (S27))).bind fun y190 => ((hamperlaw15_far.f 3 5).bind fun bt193 => (if y190.length < 4398046511104 then ((hamperlaw15_is.f k (⟨#[97, 98, 99, 49, 97, 98, 99, 50, 51, 97, 98, 99]⟩ : ByteArray) (y190 ++ [(⟨bt193.1, bt193.2.1, bt193.2.2.1, bt193.2.2.2.1, bt193.2.2.2.2⟩ : S27)])).bind fun t201 => (if t201 = true then ((hamperlaw15_lits.f k (⟨#[97, 98, 99, 88, 98, 99, 100, 101, 102, 89, 97]⟩ : ByteArray)).bind fun t202 => ((hamperlaw15_far.f 5 7).bind fun bt205 => (if t202.length < 4398046511104 then ((hamperlaw15_is.f k (⟨#[97, 98, 99, 88, 98, 99, 100, 101, 102, 89, 97, 98, 99, 100, 101, 102]⟩ : ByteArray) (t202 ++ [(⟨bt205.1, bt205.2.1, bt205.2.2.1, bt205.2.2.2.1, bt205.2.2.2.2⟩ : S27)])).bind fun t213 => (if t213 = true then ((hamperlaw15_lits.f k (⟨#[97, 98, 99, 49]⟩ : ByteArray)).bind fun t214 => ((hamperlaw15_far.f 3 4).bind fun bt217 => (if t214.length < 4398046511104 then ((some (t214 ++ [(⟨bt217.1, bt217.2.1, bt217.2.2.1, bt217.2.2.2.1, bt217.2.2.2.2⟩ : S27)] : List (S27))).bind fun y222 => ((hamperlaw15_lits.f k (⟨#[50]⟩ : ByteArray)).bind fun t225 => (if y222.length + t225.length < 4398046511104 then ((some (y222 ++ t225 : List (S27))).bind fun y228 => (if y228.length < 4398046511104 then ((hamperlaw15_is.f k (⟨#[97, 98, 99, 49, 97, 98, 99, 50, 97, 98, 99]⟩ : ByteArray) (y228 ++ [(⟨3, 0, 3, 0, 0⟩ : S27)])).bind fun t234 => (if t234 = true then ((hamperlaw15_many.f k 260 (⟨#[97]⟩ : ByteArray)).bind fun t235 => ((match_Find.f t235).bind fun t236 => ((hamperlaw15_many.f k 261 (⟨#[97]⟩ : ByteArray)).bind fun t239 => ((match_Find.f t239).bind fun t240 => ((hamperlaw15_many.f k 32765 (⟨#[45]⟩ : ByteArray)).bind fun t243 => (if 3 + t243.size ≤ 9223372036854775807 then (if ((⟨#[120, 121, 122]⟩ : ByteArray) ++ t243).size + 3 ≤ 9223372036854775807 then ((match_Longest.f (((⟨#[120, 121, 122]⟩ : ByteArray) ++ t243) ++ (⟨#[120, 121, 122]⟩ : ByteArray)) 32768).bind fun bt244 => ((hamperlaw15_many.f k 32766 (⟨#[45]⟩ : ByteArray)).bind fun t246 => (if 3 + t246.size ≤ 9223372036854775807 then (if ((⟨#[120, 121, 122]⟩ : ByteArray) ++ t246).size + 3 ≤ 9223372036854775807 then ((match_Longest.f (((⟨#[120, 121, 122]⟩ : ByteArray) ++ t246) ++ (⟨#[120, 121, 122]⟩ : ByteArray)) 32769).bind fun bt247 => ((match_Longest.f (⟨#[97, 98, 99, 97, 98, 99]⟩ : ByteArray) (-1)).bind fun bt249 => ((match_Longest.f (⟨#[97, 98, 99, 97, 98, 99]⟩ : ByteArray) 6).bind fun bt251 => ((match_Longest.f (⟨#[97, 98, 99, 97, 98, 99]⟩ : ByteArray) 3).bind fun bt253 => ((match_Longest.f (⟨#[97, 98, 99, 97, 98]⟩ : ByteArray) 3).bind fun bt255 => (if (t236.length : Int) = 3 then (if 1 < (t236.length : Int) then ((hamperlaw15_far.f 258 1).bind fun bt258 => (if (((rd_T27 t236 1).f0) == bt258.1 && (((rd_T27 t236 1).f1) == bt258.2.1 && (((rd_T27 t236 1).f2) == bt258.2.2.1 && (((rd_T27 t236 1).f3) == bt258.2.2.2.1 && (((rd_T27 t236 1).f4) == bt258.2.2.2.2))))) = true then (if 2 < (t236.length : Int) then (if ((rd_T27 t236 2).f0) = 1 then (if (t240.length : Int) = 4 then (if 2 < (t240.length : Int) then (if ((rd_T27 t240 2).f0) = 1 then (if bt244.1 = 3 then (if bt244.2 = 32768 then (if bt247.1 = 0 then (if bt247.2 = 0 then (if bt249.1 = 0 then (if bt249.2 = 0 then (if bt251.1 = 0 then (if bt251.2 = 0 then (if bt253.1 = 3 then (if bt253.2 = 3 then (if bt255.1 = 0 then (some (bt255.2 == 0)) else (some false)) else (some false)) else (some false)) else (some false)) else (some false)) else (some false)) else (some false)) else (some false)) else (some false)) else (some false)) else (some false)) else (some false)) else (none)) else (some false)) else (some false)) else (none)) else (some false))) else (none)) else (some false))))))) else (none)) else (none)))) else (none)) else (none))))))) else (some false))) else (none))) else (none)))) else (none)))) else (some false))) else (none)))) else (some false))) else (none)))) else (none)))) else (none))))
def hamperlaw15_MatchNamesR.f (k : Nat)  : Option (Bool) := (hamperlaw15_works.f k).bind fun t168 => (if t168 = true then ((match_Find.f (⟨#[]⟩ : ByteArray)).bind fun t169 => (if (t169.length : Int) = 0 then ((hamperlaw15_lits.f k (⟨#[97, 98]⟩ : ByteArray)).bind fun t172 => ((hamperlaw15_is.f k (⟨#[97, 98]⟩ : ByteArray) t172).bind fun t175 => (hamperlaw15_MatchNamesR.j0 k (!t175)))) else (hamperlaw15_MatchNamesR.j0 k true))) else (hamperlaw15_MatchNamesR.j0 k true))
theorem hamperlaw15_MatchNamesR.mono_l : ∀ k, (∀ y0, LeO (hamperlaw15_MatchNamesR.j0 k y0) (hamperlaw15_MatchNamesR.j0 (k + 1) y0))
  | 0 => fun _ r h => by simp [hamperlaw15_MatchNamesR.j0] at h
  | k + 1 => by
    have ih0 := hamperlaw15_MatchNamesR.mono_l k
    · intro y0
      unfold hamperlaw15_MatchNamesR.j0
      repeat' first
      | (with_reducible exact ih0 _)
      | (with_reducible exact hamperlaw15_is.mono _ _ _)
      | (with_reducible exact hamperlaw15_lits.mono _ _)
      | (with_reducible exact hamperlaw15_many.mono _ _ _)
      | (with_reducible exact hamperlaw15_works.mono _)
      | (with_reducible exact LeO.refl _)
      | (with_reducible exact LeO.none _)
      | (with_reducible refine LeO.ite ?_ ?_)
      | (with_reducible refine LeO.bind ?_ (fun _ => ?_))
      | exact ih0 _
      | exact hamperlaw15_is.mono _ _ _
      | exact hamperlaw15_lits.mono _ _
      | exact hamperlaw15_many.mono _ _ _
      | exact hamperlaw15_works.mono _
      | exact LeO.none _
      | refine LeO.ite ?_ ?_
      | refine LeO.bind ?_ (fun _ => ?_)
theorem hamperlaw15_MatchNamesR.mono : ∀ k, LeO (hamperlaw15_MatchNamesR.f k ) (hamperlaw15_MatchNamesR.f (k + 1) ) := by
  intro  k
  have ih0 := hamperlaw15_MatchNamesR.mono_l k
  unfold hamperlaw15_MatchNamesR.f
  repeat' first
      | (with_reducible exact ih0 _)
      | (with_reducible exact hamperlaw15_is.mono _ _ _)
      | (with_reducible exact hamperlaw15_lits.mono _ _)
      | (with_reducible exact hamperlaw15_many.mono _ _ _)
      | (with_reducible exact hamperlaw15_works.mono _)
      | (with_reducible exact LeO.refl _)
      | (with_reducible exact LeO.none _)
      | (with_reducible refine LeO.ite ?_ ?_)
      | (with_reducible refine LeO.bind ?_ (fun _ => ?_))
      | exact ih0 _
      | exact hamperlaw15_is.mono _ _ _
      | exact hamperlaw15_lits.mono _ _
      | exact hamperlaw15_many.mono _ _ _
      | exact hamperlaw15_works.mono _
      | exact LeO.none _
      | refine LeO.ite ?_ ?_
      | refine LeO.bind ?_ (fun _ => ?_)
def hamperlaw15_MatchNamesR.T17 : Bool × List (List Nat × List Nat) := (true, [([], []), ([0], [0]), ([1], [1]), ([2], [2]), ([3], [3]), ([4, 3], [3, 4]), ([5, 3], [3, 5]), ([3, 3], [3]), ([6, 7, 3], [3, 6, 7]), ([3, 8], [3, 8]), ([9, 7], [9]), ([10], [10]), ([11, 10], [10, 11]), ([12, 10], [10, 12]), ([13, 10], [10, 13]), ([14, 10], [10, 14]), ([10, 15], [10, 15]), ([16, 10], [16]), ([17], [17]), ([18, 17], [17, 18]), ([19, 17], [17, 19]), ([17, 20], [17, 20]), ([21, 17], [21]), ([22], [22]), ([23, 22], [22, 23]), ([24, 22], [22, 24]), ([25, 22], [22, 25]), ([26, 22], [22, 26]), ([22, 27], [22, 27]), ([28, 22], [28]), ([29], [29]), ([30, 29], [29, 30]), ([29, 31], [29, 31]), ([32, 29], [32]), ([33], [33]), ([34, 33], [33, 34]), ([33, 35], [33, 35]), ([36, 33], [36]), ([37], [37]), ([38, 37], [37, 38]), ([37, 39], [37, 39]), ([40, 37], [40]), ([41], [41]), ([42, 41], [41, 42]), ([41, 43], [41, 43]), ([44, 41], [44]), ([45], [45]), ([46, 45], [45, 46]), ([45, 47], [45, 47]), ([48, 45], [48]), ([49], [49]), ([50, 49], [49, 50]), ([49, 51], [49, 51]), ([52, 49], [52]), ([53], [53]), ([54, 53], [53, 54]), ([53, 55], [53, 55]), ([56, 53], [56]), ([57], [57]), ([58, 57], [57, 58]), ([57, 59], [57, 59]), ([60, 57], [60]), ([61], [61]), ([62, 61], [61, 62]), ([61, 63], [61, 63]), ([64, 61], [64]), ([65], [65]), ([66, 65], [65, 66]), ([65, 67], [65, 67]), ([68, 65], [68]), ([69], [69]), ([70, 69], [69, 70]), ([69, 71], [69, 71]), ([72, 69], [72]), ([73], [73]), ([74, 73], [73, 74]), ([73, 75], [73, 75]), ([76, 73, 0, 1, 2, 3, 4, 5, 6, 7, 8, 9, 10, 11, 12, 13, 14, 15, 16, 17, 18, 19, 20, 21, 22, 23, 24, 25, 26, 27, 28, 29, 30, 31, 32, 33, 34, 35, 36, 37, 38, 39, 40, 41, 42, 43, 44, 45, 46, 47, 48, 49, 50, 51, 52, 53, 54, 55, 56, 57, 58, 59, 60, 61, 62, 63, 64, 65, 66, 67, 68, 69, 70, 71, 72, 73, 74, 75, 76], [76])])
def hamperlaw15_MatchNamesR.B17 : List Nat := [0, 1, 3, 7, 15, 31, 63, 15, 255, 511, 1023, 2047, 4095, 8191, 16383, 32767, 65535, 131071, 262143, 524287, 1048575, 2097151, 4194303, 8388607, 16777215, 33554431, 67108863, 134217727, 268435455, 536870911, 1073741823, 2147483647, 4294967295, 8589934591, 17179869183, 34359738367, 68719476735, 137438953471, 274877906943, 549755813887, 1099511627775, 2199023255551, 4398046511103, 8796093022207, 17592186044415, 35184372088831, 70368744177663, 140737488355327, 281474976710655, 562949953421311, 1125899906842623, 2251799813685247, 4503599627370495, 9007199254740991, 18014398509481983, 36028797018963967, 72057594037927935, 144115188075855871, 288230376151711743, 576460752303423487, 1152921504606846975, 2305843009213693951, 4611686018427387903, 9223372036854775807, 18446744073709551615, 36893488147419103231, 73786976294838206463, 147573952589676412927, 295147905179352825855, 590295810358705651711, 1180591620717411303423, 2361183241434822606847, 4722366482869645213695, 9444732965739290427391, 18889465931478580854783, 37778931862957161709567, 75557863725914323419135, 151115727451828646838271]
theorem hamperlaw15_MatchNamesR.tab17 : rtab .any (opsOf Try.f3 17) = hamperlaw15_MatchNamesR.T17 := by kernel_rfl
theorem hamperlaw15_MatchNamesR.bits17 : waitsOk hamperlaw15_MatchNamesR.T17.2 hamperlaw15_MatchNamesR.B17 = true := by kernel_rfl
end Go.Proofs.Ytaooiffnpnmdeaa.PMt
