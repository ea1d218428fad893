import Derived.Test.YteplphpbpaojjaaDoorPMax0
import Derived.Test.YteplphpbpaojjaaDoorPMax1
import Derived.Test.YteplphpbpaojjaaDoorPMax22
import Derived.Test.YteplphpbpaojjaaDoorPMax34
import Derived.Test.YteplphpbpaojjaaDoorPMax38
import Derived.Test.YteplphpbpaojjaaDoorPMax54
import Derived.Test.YteplphpbpaojjaaDoorPMax55
-- Made by a program of this session (wip/tools/trueonly.py, trueflat.py) out of the seat's translation.
namespace Go.Proofs.YteplphpbpaojjaaDoor.PMa
open Go.RowKit Go.Proofs.YteplphpbpaojjaaDoorW.PrintWords Go.Proofs.YteplphpbpaojjaaDoorW.PrintLast Go.Proofs.YteplphpbpaojjaaDoorW.PrintMore
theorem eqA37 (d : Nat) (w : World) (x0 y0 : ByteArray) (x1 y1 : Int) (x2 y2 : Int) (x3 y3 : ByteArray) :
    (Op.equalIn (d + 2) 37 (.agg #[.string x0, .int .i64 x1, .int .i64 x2, .string x3]) (.agg #[.string y0, .int .i64 y1, .int .i64 y2, .string y3])).run Tryd.prog w = .ok (x0.toList == y0.toList && (x1 == y1 && (x2 == y2 && (x3.toList == y3.toList)))) w := by
  refine eqA_of Tryd.underlying37 (by kernel_rfl) ?_
  refine eqf_cons (by rfl) (by go_simp; rfl) (by go_simp; rfl) (by go_simp) ?_
  refine eqf_cons (by rfl) (by go_simp; rfl) (by go_simp; rfl) (by go_simp) ?_
  refine eqf_cons (by rfl) (by go_simp; rfl) (by go_simp; rfl) (by go_simp) ?_
  exact eqf_last (by rfl) (by go_simp; rfl) (by go_simp; rfl) (by go_simp)
attribute [local go_sem] max2_int min2_int max_two min_two max_three min_three max_four min_four   -- for this text's walks alone
attribute [local go_sem high] eqA25 eqA37
set_option linter.unusedVariables false
set_option linter.unusedSimpArgs false
/-! ### hamperlaw19_MetaOf: function 7 -/
mutual
def hamperlaw19_MetaOf.j0 : Nat → Bool → ByteArray → Int → Int → ByteArray → ByteArray → Int → Int → ByteArray → Option (Bool)
  | 0, _, _, _, _, _, _, _, _, _ => none
  | k + 1, x20, x150000, x150001, x150002, x150003, x151000, x151001, x151002, x151003 => if x20 = true then ((hamperlaw19_works.f k).bind fun t152 => (some t152)) else ((meta_Of.f x150000 x150001 x150002 x150003).bind fun bt153 => ((meta_Of.f x151000 x151001 x151002 x151003).bind fun bt159 => (if bt153.1.toList = x150000.toList then (if bt153.2.1 = x150001 then (if bt153.2.2.1 = x150002 then (if bt153.2.2.2.1 = (x150003.size : Int) then ((blake_Sum.f x150003).bind fun t165 => (hamperlaw19_MetaOf.j1 k (bt153.2.2.2.2.toList != t165.toList) x150000 x150001 x150002 x150003 x151000 x151001 x151002 x151003 bt153.1 bt153.2.1 bt153.2.2.1 bt153.2.2.2.1 bt153.2.2.2.2 bt159.1 bt159.2.1 bt159.2.2.1 bt159.2.2.2.1 bt159.2.2.2.2)) else (hamperlaw19_MetaOf.j1 k true x150000 x150001 x150002 x150003 x151000 x151001 x151002 x151003 bt153.1 bt153.2.1 bt153.2.2.1 bt153.2.2.2.1 bt153.2.2.2.2 bt159.1 bt159.2.1 bt159.2.2.1 bt159.2.2.2.1 bt159.2.2.2.2)) else (hamperlaw19_MetaOf.j1 k true x150000 x150001 x150002 x150003 x151000 x151001 x151002 x151003 bt153.1 bt153.2.1 bt153.2.2.1 bt153.2.2.2.1 bt153.2.2.2.2 bt159.1 bt159.2.1 bt159.2.2.1 bt159.2.2.2.1 bt159.2.2.2.2)) else (hamperlaw19_MetaOf.j1 k true x150000 x150001 x150002 x150003 x151000 x151001 x151002 x151003 bt153.1 bt153.2.1 bt153.2.2.1 bt153.2.2.2.1 bt153.2.2.2.2 bt159.1 bt159.2.1 bt159.2.2.1 bt159.2.2.2.1 bt159.2.2.2.2)) else (hamperlaw19_MetaOf.j1 k true x150000 x150001 x150002 x150003 x151000 x151001 x151002 x151003 bt153.1 bt153.2.1 bt153.2.2.1 bt153.2.2.2.1 bt153.2.2.2.2 bt159.1 bt159.2.1 bt159.2.2.1 bt159.2.2.2.1 bt159.2.2.2.2))))
def hamperlaw19_MetaOf.j1 : Nat → Bool → ByteArray → Int → Int → ByteArray → ByteArray → Int → Int → ByteArray → ByteArray → Int → Int → Int → ByteArray → ByteArray → Int → Int → Int → ByteArray → Option (Bool)
  | 0, _, _, _, _, _, _, _, _, _, _, _, _, _, _, _, _, _, _, _ => none
  | k + 1, x60, x150000, x150001, x150002, x150003, x151000, x151001, x151002, x151003, x159000, x159001, x159002, x159003, x159004, x165000, x165001, x165002, x165003, x165004 => if x60 = true then (some false) else ((meta_May.f x159000 x159001 x159002 x159003 x159004).bind fun t166 => ((meta_Name.f x150000).bind fun t167 => (if t167 = true then (if x150001 ≥ 0 then (if x150001 ≤ 65535 then (if x150002 ≥ 0 then (hamperlaw19_MetaOf.j2 k (t166 != (decide (x150002 ≤ 1099511627776))) x150000 x150001 x150002 x150003 x151000 x151001 x151002 x151003 x159000 x159001 x159002 x159003 x159004 x165000 x165001 x165002 x165003 x165004) else (hamperlaw19_MetaOf.j2 k (t166 != false) x150000 x150001 x150002 x150003 x151000 x151001 x151002 x151003 x159000 x159001 x159002 x159003 x159004 x165000 x165001 x165002 x165003 x165004)) else (hamperlaw19_MetaOf.j2 k (t166 != false) x150000 x150001 x150002 x150003 x151000 x151001 x151002 x151003 x159000 x159001 x159002 x159003 x159004 x165000 x165001 x165002 x165003 x165004)) else (hamperlaw19_MetaOf.j2 k (t166 != false) x150000 x150001 x150002 x150003 x151000 x151001 x151002 x151003 x159000 x159001 x159002 x159003 x159004 x165000 x165001 x165002 x165003 x165004)) else (hamperlaw19_MetaOf.j2 k (t166 != false) x150000 x150001 x150002 x150003 x151000 x151001 x151002 x151003 x159000 x159001 x159002 x159003 x159004 x165000 x165001 x165002 x165003 x165004))))
def hamperlaw19_MetaOf.j2 : Nat → Bool → ByteArray → Int → Int → ByteArray → ByteArray → Int → Int → ByteArray → ByteArray → Int → Int → Int → ByteArray → ByteArray → Int → Int → Int → ByteArray → Option (Bool)
  | 0, _, _, _, _, _, _, _, _, _, _, _, _, _, _, _, _, _, _, _ => none
  | k + 1, x86, x150000, x150001, x150002, x150003, x151000, x151001, x151002, x151003, x159000, x159001, x159002, x159003, x159004, x165000, x165001, x165002, x165003, x165004 => if x86 = true then (some false) else (if (!(x159000.toList == x165000.toList) || (!(x159001 == x165001) || (!(x159002 == x165002) || (!(x159003 == x165003) || (!(x159004.toList == x165004.toList)))))) = true then (some (!(x150000.toList == x151000.toList) || (!(x150001 == x151001) || (!(x150002 == x151002) || (!(x150003.toList == x151003.toList)))))) else (if (x150000.toList == x151000.toList && (x150001 == x151001 && (x150002 == x151002 && (x150003.toList == x151003.toList)))) = true then (some true) else (if x150003.toList = x151003.toList then (some false) else (if (x150003.size : Int) = (x151003.size : Int) then ((blake_Sum.f x150003).bind fun t168 => ((blake_Sum.f x151003).bind fun t169 => (some (t168.toList == t169.toList)))) else (some false)))))
end
def hamperlaw19_MetaOf.f (k : Nat) (a0_0 : ByteArray) (a0_1 : Int) (a0_2 : Int) (a0_3 : ByteArray) (a1_0 : ByteArray) (a1_1 : Int) (a1_2 : Int) (a1_3 : ByteArray) : Option (Bool) := (hamperlaw19_works.f k).bind fun t151 => (if t151 = true then (if (a0_3.size : Int) > 5000 then (hamperlaw19_MetaOf.j0 k true a0_0 a0_1 a0_2 a0_3 a1_0 a1_1 a1_2 a1_3) else (hamperlaw19_MetaOf.j0 k (decide ((a1_3.size : Int) > 5000)) a0_0 a0_1 a0_2 a0_3 a1_0 a1_1 a1_2 a1_3)) else (hamperlaw19_MetaOf.j0 k true a0_0 a0_1 a0_2 a0_3 a1_0 a1_1 a1_2 a1_3))
theorem hamperlaw19_MetaOf.mono_l : ∀ k, (∀ y0 y1 y2 y3 y4 y5 y6 y7 y8, LeO (hamperlaw19_MetaOf.j0 k y0 y1 y2 y3 y4 y5 y6 y7 y8) (hamperlaw19_MetaOf.j0 (k + 1) y0 y1 y2 y3 y4 y5 y6 y7 y8)) ∧ (∀ y0 y1 y2 y3 y4 y5 y6 y7 y8 y9 y10 y11 y12 y13 y14 y15 y16 y17 y18, LeO (hamperlaw19_MetaOf.j1 k y0 y1 y2 y3 y4 y5 y6 y7 y8 y9 y10 y11 y12 y13 y14 y15 y16 y17 y18) (hamperlaw19_MetaOf.j1 (k + 1) y0 y1 y2 y3 y4 y5 y6 y7 y8 y9 y10 y11 y12 y13 y14 y15 y16 y17 y18)) ∧ (∀ y0 y1 y2 y3 y4 y5 y6 y7 y8 y9 y10 y11 y12 y13 y14 y15 y16 y17 y18, LeO (hamperlaw19_MetaOf.j2 k y0 y1 y2 y3 y4 y5 y6 y7 y8 y9 y10 y11 y12 y13 y14 y15 y16 y17 y18) (hamperlaw19_MetaOf.j2 (k + 1) y0 y1 y2 y3 y4 y5 y6 y7 y8 y9 y10 y11 y12 y13 y14 y15 y16 y17 y18))
  | 0 => ⟨fun _ _ _ _ _ _ _ _ _ r h => by simp [hamperlaw19_MetaOf.j0] at h, fun _ _ _ _ _ _ _ _ _ _ _ _ _ _ _ _ _ _ _ r h => by simp [hamperlaw19_MetaOf.j1] at h, fun _ _ _ _ _ _ _ _ _ _ _ _ _ _ _ _ _ _ _ r h => by simp [hamperlaw19_MetaOf.j2] at h⟩
  | k + 1 => by
    obtain ⟨ih0, ih1, ih2⟩ := hamperlaw19_MetaOf.mono_l k
    refine ⟨?_, ?_, ?_⟩
    · intro y0 y1 y2 y3 y4 y5 y6 y7 y8
      unfold hamperlaw19_MetaOf.j0
      repeat' first
      | (with_reducible exact ih0 _ _ _ _ _ _ _ _ _)
      | (with_reducible exact ih1 _ _ _ _ _ _ _ _ _ _ _ _ _ _ _ _ _ _ _)
      | (with_reducible exact ih2 _ _ _ _ _ _ _ _ _ _ _ _ _ _ _ _ _ _ _)
      | (with_reducible exact hamperlaw19_works.mono _)
      | (with_reducible exact LeO.refl _)
      | (with_reducible exact LeO.none _)
      | (with_reducible refine LeO.ite ?_ ?_)
      | (with_reducible refine LeO.bind ?_ (fun _ => ?_))
      | exact ih0 _ _ _ _ _ _ _ _ _
      | exact ih1 _ _ _ _ _ _ _ _ _ _ _ _ _ _ _ _ _ _ _
      | exact ih2 _ _ _ _ _ _ _ _ _ _ _ _ _ _ _ _ _ _ _
      | exact hamperlaw19_works.mono _
      | exact LeO.none _
      | refine LeO.ite ?_ ?_
      | refine LeO.bind ?_ (fun _ => ?_)
    · intro y0 y1 y2 y3 y4 y5 y6 y7 y8 y9 y10 y11 y12 y13 y14 y15 y16 y17 y18
      unfold hamperlaw19_MetaOf.j1
      repeat' first
      | (with_reducible exact ih0 _ _ _ _ _ _ _ _ _)
      | (with_reducible exact ih1 _ _ _ _ _ _ _ _ _ _ _ _ _ _ _ _ _ _ _)
      | (with_reducible exact ih2 _ _ _ _ _ _ _ _ _ _ _ _ _ _ _ _ _ _ _)
      | (with_reducible exact hamperlaw19_works.mono _)
      | (with_reducible exact LeO.refl _)
      | (with_reducible exact LeO.none _)
      | (with_reducible refine LeO.ite ?_ ?_)
      | (with_reducible refine LeO.bind ?_ (fun _ => ?_))
      | exact ih0 _ _ _ _ _ _ _ _ _
      | exact ih1 _ _ _ _ _ _ _ _ _ _ _ _ _ _ _ _ _ _ _
      | exact ih2 _ _ _ _ _ _ _ _ _ _ _ _ _ _ _ _ _ _ _
      | exact hamperlaw19_works.mono _
      | exact LeO.none _
      | refine LeO.ite ?_ ?_
      | refine LeO.bind ?_ (fun _ => ?_)
    · intro y0 y1 y2 y3 y4 y5 y6 y7 y8 y9 y10 y11 y12 y13 y14 y15 y16 y17 y18
      unfold hamperlaw19_MetaOf.j2
      repeat' first
      | (with_reducible exact ih0 _ _ _ _ _ _ _ _ _)
      | (with_reducible exact ih1 _ _ _ _ _ _ _ _ _ _ _ _ _ _ _ _ _ _ _)
      | (with_reducible exact ih2 _ _ _ _ _ _ _ _ _ _ _ _ _ _ _ _ _ _ _)
      | (with_reducible exact hamperlaw19_works.mono _)
      | (with_reducible exact LeO.refl _)
      | (with_reducible exact LeO.none _)
      | (with_reducible refine LeO.ite ?_ ?_)
      | (with_reducible refine LeO.bind ?_ (fun _ => ?_))
      | exact ih0 _ _ _ _ _ _ _ _ _
      | exact ih1 _ _ _ _ _ _ _ _ _ _ _ _ _ _ _ _ _ _ _
      | exact ih2 _ _ _ _ _ _ _ _ _ _ _ _ _ _ _ _ _ _ _
      | exact hamperlaw19_works.mono _
      | exact LeO.none _
      | refine LeO.ite ?_ ?_
      | refine LeO.bind ?_ (fun _ => ?_)
theorem hamperlaw19_MetaOf.mono : ∀ a0 a1 a2 a3 a4 a5 a6 a7 k, LeO (hamperlaw19_MetaOf.f k a0 a1 a2 a3 a4 a5 a6 a7) (hamperlaw19_MetaOf.f (k + 1) a0 a1 a2 a3 a4 a5 a6 a7) := by
  intro a0 a1 a2 a3 a4 a5 a6 a7 k
  obtain ⟨ih0, ih1, ih2⟩ := hamperlaw19_MetaOf.mono_l k
  unfold hamperlaw19_MetaOf.f
  repeat' first
      | (with_reducible exact ih0 _ _ _ _ _ _ _ _ _)
      | (with_reducible exact ih1 _ _ _ _ _ _ _ _ _ _ _ _ _ _ _ _ _ _ _)
      | (with_reducible exact ih2 _ _ _ _ _ _ _ _ _ _ _ _ _ _ _ _ _ _ _)
      | (with_reducible exact hamperlaw19_works.mono _)
      | (with_reducible exact LeO.refl _)
      | (with_reducible exact LeO.none _)
      | (with_reducible refine LeO.ite ?_ ?_)
      | (with_reducible refine LeO.bind ?_ (fun _ => ?_))
      | exact ih0 _ _ _ _ _ _ _ _ _
      | exact ih1 _ _ _ _ _ _ _ _ _ _ _ _ _ _ _ _ _ _ _
      | exact ih2 _ _ _ _ _ _ _ _ _ _ _ _ _ _ _ _ _ _ _
      | exact hamperlaw19_works.mono _
      | exact LeO.none _
      | refine LeO.ite ?_ ?_
      | refine LeO.bind ?_ (fun _ => ?_)
def hamperlaw19_MetaOf.T5 : Bool × List (List Nat × List Nat) := (true, [([], []), ([0], [0]), ([], []), ([2], [2]), ([1, 3], [1, 3]), ([4], [4]), ([5], [5]), ([6, 5], [5, 6]), ([5], [5]), ([8, 5], [5, 8]), ([7, 9, 5], [5, 7, 9]), ([5, 10], [5, 10]), ([11, 5], [11]), ([12], [12]), ([13, 12], [12, 13]), ([12], [12]), ([15, 12], [12, 15]), ([14, 16, 12], [12, 14, 16]), ([12, 17], [12, 17]), ([18, 12], [18]), ([19], [19]), ([20, 19], [19, 20]), ([19], [19]), ([22, 19], [19, 22]), ([23, 19], [19, 23]), ([21, 24, 19], [19, 21, 24]), ([19, 25], [19, 25]), ([26, 19], [26]), ([27], [27]), ([28, 27], [27, 28]), ([27], [27]), ([30, 27], [27, 30]), ([31, 27, 27], [27, 31]), ([29, 32, 27], [27, 29, 32]), ([27, 33], [27, 33])])
def hamperlaw19_MetaOf.B5 : List Nat := [0, 1, 0, 4, 15, 31, 63, 127, 63, 319, 1023, 2047, 4095, 8191, 16383, 8191, 40959, 131071, 262143, 524287, 1048575, 2097151, 1048575, 5242879, 13631487, 33554431, 67108863, 134217727, 268435455, 536870911, 268435455, 1342177279, 3489660927, 8589934591, 17179869183]
theorem hamperlaw19_MetaOf.tab5 : rtab .any (opsOf Tryd.f7 5) = hamperlaw19_MetaOf.T5 := by kernel_rfl
theorem hamperlaw19_MetaOf.bits5 : waitsOk hamperlaw19_MetaOf.T5.2 hamperlaw19_MetaOf.B5 = true := by kernel_rfl
def hamperlaw19_MetaOf.T7 : Bool × List (List Nat × List Nat) := (true, [([], []), ([0], [0]), ([], []), ([2], [2]), ([3, 1], [3]), ([4, 4], [4]), ([5], [5]), ([6, 5], [5, 6]), ([7, 5], [5, 7]), ([5, 8], [5, 8]), ([9, 5], [9]), ([10], [10]), ([11, 10], [10, 11]), ([12, 10], [10, 12]), ([10, 13], [10, 13]), ([14, 10], [14]), ([15], [15]), ([16, 15], [15, 16]), ([17, 15], [15, 17]), ([15, 18], [15, 18]), ([19, 15], [19]), ([20], [20]), ([21, 20], [20, 21]), ([22, 20], [20, 22]), ([20, 23], [20, 23]), ([1, 24], [1, 24])])
def hamperlaw19_MetaOf.B7 : List Nat := [0, 1, 0, 4, 15, 31, 63, 127, 255, 511, 1023, 2047, 4095, 8191, 16383, 32767, 65535, 131071, 262143, 524287, 1048575, 2097151, 4194303, 8388607, 16777215, 33554431]
theorem hamperlaw19_MetaOf.tab7 : rtab .any (opsOf Tryd.f7 7) = hamperlaw19_MetaOf.T7 := by kernel_rfl
theorem hamperlaw19_MetaOf.bits7 : waitsOk hamperlaw19_MetaOf.T7.2 hamperlaw19_MetaOf.B7 = true := by kernel_rfl
def hamperlaw19_MetaOf.T11 : Bool × List (List Nat × List Nat) := (true, [([], []), ([], []), ([0, 1], [0, 1]), ([2], [2]), ([3], [3]), ([4, 3], [3, 4]), ([3], [3]), ([6, 3], [3, 6]), ([5, 7, 3], [3, 5, 7]), ([8, 3, 3], [3, 8]), ([9], [9]), ([10, 9], [9, 10]), ([11, 9], [9, 11]), ([9], [9]), ([13, 9], [9, 13]), ([14, 9], [9, 14]), ([12, 15, 9], [9, 12, 15]), ([9, 16, 3], [3, 9, 16]), ([17, 9, 3], [3, 17]), ([18], [18]), ([19, 18], [18, 19]), ([20, 18, 18], [18, 20]), ([18], [18]), ([22, 18], [18, 22]), ([23, 21, 18], [18, 23]), ([21, 24, 18], [18, 21, 24]), ([18, 25, 3], [3, 18, 25]), ([3, 26], [3, 26]), ([27, 24, 0, 1, 2, 3, 4, 5, 6, 7, 8, 9, 10, 11, 12, 13, 14, 15, 16, 17, 18, 19, 20, 21, 22, 23, 24, 25, 26, 27], [27])])
def hamperlaw19_MetaOf.B11 : List Nat := [0, 0, 3, 7, 15, 31, 15, 79, 255, 511, 1023, 2047, 4095, 1023, 9215, 25599, 65535, 131071, 262143, 524287, 1048575, 2097151, 524287, 4718591, 16777215, 33554431, 67108863, 134217727, 268435455]
theorem hamperlaw19_MetaOf.tab11 : rtab .any (opsOf Tryd.f7 11) = hamperlaw19_MetaOf.T11 := by kernel_rfl
theorem hamperlaw19_MetaOf.bits11 : waitsOk hamperlaw19_MetaOf.T11.2 hamperlaw19_MetaOf.B11 = true := by kernel_rfl
end Go.Proofs.YteplphpbpaojjaaDoor.PMa
