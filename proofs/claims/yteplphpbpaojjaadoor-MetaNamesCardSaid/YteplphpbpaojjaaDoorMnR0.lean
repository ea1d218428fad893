import Derived.Test.YteplphpbpaojjaaDoorPMax0
import Derived.Test.YteplphpbpaojjaaDoorPMax22
import Derived.Test.YteplphpbpaojjaaDoorPMax29
import Derived.Test.YteplphpbpaojjaaDoorPMax34
import Derived.Test.YteplphpbpaojjaaDoorPMax36
import Derived.Test.YteplphpbpaojjaaDoorPMax37
import Derived.Test.YteplphpbpaojjaaDoorPMax38
import Derived.Test.YteplphpbpaojjaaDoorPMax39
import Derived.Test.YteplphpbpaojjaaDoorPMax54
import Derived.Test.YteplphpbpaojjaaDoorPMax55
import Derived.Test.YteplphpbpaojjaaDoorPMax1
-- Made by a program of this session (wip/tools/trueonly.py, trueflat.py) out of the seat's translation.
namespace Go.Proofs.YteplphpbpaojjaaDoor.PMa
open Go.RowKit Go.Proofs.YteplphpbpaojjaaDoorW.PrintWords Go.Proofs.YteplphpbpaojjaaDoorW.PrintLast Go.Proofs.YteplphpbpaojjaaDoorW.PrintMore
attribute [local go_sem] max2_int min2_int max_two min_two max_three min_three max_four min_four
attribute [local go_sem high] eqA25
set_option linter.unusedVariables false
set_option linter.unusedSimpArgs false
mutual
def hamperlaw19_MetaNamesR.l0 : Nat → List ByteArray → Int → Int → Option (Bool)
  | 0, _, _, _ => none
  | k + 1, x49, x50, x51 => if x51 < x50 then (if 0 ≤ x51 then (if x51 < (x49.length : Int) then ((meta_Name.f (rdOf ByteArray.empty x49 x51)).bind fun t158 => (if t158 = true then (hamperlaw19_MetaNamesR.l0 k x49 x50 (wrap64 (x51 + 1))) else (some false))) else (none)) else (none)) else ((hamperlaw19_many.f k 256 (⟨#[97]⟩ : ByteArray)).bind fun t159 => ((some (([(⟨#[46, 46]⟩ : ByteArray), (⟨#[46, 46, 47, 97]⟩ : ByteArray), (⟨#[97, 47, 46, 46]⟩ : ByteArray), (⟨#[46, 47, 97]⟩ : ByteArray), (⟨#[97, 47, 46]⟩ : ByteArray), (⟨#[47]⟩ : ByteArray), (⟨#[47, 47]⟩ : ByteArray), (⟨#[97, 47, 195]⟩ : ByteArray), (⟨#[237, 160, 128]⟩ : ByteArray), t159] : List ByteArray) : List ByteArray)).bind fun y160 => (hamperlaw19_MetaNamesR.l1 k y160 (y160.length : Int) 0)))
def hamperlaw19_MetaNamesR.l1 : Nat → List ByteArray → Int → Int → Option (Bool)
  | 0, _, _, _ => none
  | k + 1, x60, x61, x62 => if x62 < x61 then (if 0 ≤ x62 then (if x62 < (x60.length : Int) then ((hamperlaw19_said.f k (rdOf ByteArray.empty x60 x62)).bind fun bt164 => ((meta_Make.f bt164.1 bt164.2.1 bt164.2.2.1 bt164.2.2.2.1 bt164.2.2.2.2).bind fun bt169 => ((meta_Name.f (rdOf ByteArray.empty x60 x62)).bind fun t171 => (if t171 = true then (some false) else (if bt169.2 = 60 then (hamperlaw19_MetaNamesR.l1 k x60 x61 (wrap64 (x62 + 1))) else (some false)))))) else (none)) else (none)) else ((hamperlaw19_said.f k (⟨#[97]⟩ : ByteArray)).bind fun bt172 => ((hamperlaw19_said.f k (⟨#[97]⟩ : ByteArray)).bind fun bt178 => ((hamperlaw19_said.f k (⟨#[97]⟩ : ByteArray)).bind fun bt184 => ((hamperlaw19_said.f k (⟨#[97]⟩ : ByteArray)).bind fun bt190 => ((hamperlaw19_said.f k (⟨#[97]⟩ : ByteArray)).bind fun bt196 => ((hamperlaw19_said.f k (⟨#[97]⟩ : ByteArray)).bind fun bt202 => ((hamperlaw19_said.f k (⟨#[97]⟩ : ByteArray)).bind fun bt208 => ((hamperlaw19_many.f k 31 (⟨#[115]⟩ : ByteArray)).bind fun t214 => ((some (([(⟨bt172.1, 65536, bt172.2.2.1, bt172.2.2.2.1, bt172.2.2.2.2⟩ : S25), (⟨bt178.1, (-1), bt178.2.2.1, bt178.2.2.2.1, bt178.2.2.2.2⟩ : S25), (⟨bt184.1, bt184.2.1, 1099511627777, bt184.2.2.2.1, bt184.2.2.2.2⟩ : S25), (⟨bt190.1, bt190.2.1, (-1), bt190.2.2.2.1, bt190.2.2.2.2⟩ : S25), (⟨bt196.1, bt196.2.1, bt196.2.2.1, 32769, bt196.2.2.2.2⟩ : S25), (⟨bt202.1, bt202.2.1, bt202.2.2.1, (-1), bt202.2.2.2.2⟩ : S25), (⟨bt208.1, bt208.2.1, bt208.2.2.1, bt208.2.2.2.1, t214⟩ : S25)] : List (S25)) : List (S25))).bind fun y215 => (hamperlaw19_MetaNamesR.l2 k y215 (y215.length : Int) 0 bt208.1 bt208.2.1 bt208.2.2.1 bt208.2.2.2.1 t214))))))))))
def hamperlaw19_MetaNamesR.l2 : Nat → List (S25) → Int → Int → ByteArray → Int → Int → Int → ByteArray → Option (Bool)
  | 0, _, _, _, _, _, _, _, _ => none
  | k + 1, x101, x102, x103, x214000, x214001, x214002, x214003, x214004 => if x103 < x102 then (if 0 ≤ x103 then (if x103 < (x101.length : Int) then ((meta_Make.f ((rd_T25 x101 x103).f0) ((rd_T25 x101 x103).f1) ((rd_T25 x101 x103).f2) ((rd_T25 x101 x103).f3) ((rd_T25 x101 x103).f4)).bind fun bt220 => ((meta_May.f ((rd_T25 x101 x103).f0) ((rd_T25 x101 x103).f1) ((rd_T25 x101 x103).f2) ((rd_T25 x101 x103).f3) ((rd_T25 x101 x103).f4)).bind fun t222 => (if t222 = true then (some false) else (if bt220.2 = 4 then (hamperlaw19_MetaNamesR.l2 k x101 x102 (wrap64 (x103 + 1)) x214000 x214001 x214002 x214003 x214004) else (some false))))) else (none)) else (none)) else ((meta_Make.f (⟨#[]⟩ : ByteArray) x214001 x214002 x214003 x214004).bind fun bt223 => ((hamperlaw19_many.f k 255 (⟨#[110]⟩ : ByteArray)).bind fun t225 => ((hamperlaw19_many.f k 32 (⟨#[255]⟩ : ByteArray)).bind fun t226 => ((meta_Make.f t225 65535 1099511627776 32768 t226).bind fun bt228 => (if bt228.1.size + 4 ≤ 9223372036854775807 then ((meta_Read.f (bt228.1 ++ (⟨#[109, 111, 114, 101]⟩ : ByteArray))).bind fun bt230 => (if 0 ≤ (wrap64 ((bt228.1.size : Int) - 1)) then (if (wrap64 ((bt228.1.size : Int) - 1)) ≤ (bt228.1.size : Int) then ((meta_Read.f (bt228.1.extract 0 ((wrap64 ((bt228.1.size : Int) - 1)) : Int).toNat)).bind fun bt238 => ((meta_Read.f (⟨#[]⟩ : ByteArray)).bind fun bt246 => (if 256 ≤ (bt228.1.size : Int) then (if 1 + (bt228.1.extract 256 bt228.1.size).size ≤ 9223372036854775807 then ((meta_Read.f ((⟨#[0]⟩ : ByteArray) ++ (bt228.1.extract 256 bt228.1.size))).bind fun bt254 => ((meta_Of.f (⟨#[120]⟩ : ByteArray) 7 9 (⟨#[97, 98, 99]⟩ : ByteArray)).bind fun bt262 => (if bt223.2 = 60 then (if bt228.2 = 0 then (if (bt230.1.toList == t225.toList && (bt230.2.1 == 65535 && (bt230.2.2.1 == 1099511627776 && (bt230.2.2.2.1 == 32768 && (bt230.2.2.2.2.1.toList == t226.toList))))) = true then (if bt230.2.2.2.2.2.1 = (bt228.1.size : Int) then (if bt230.2.2.2.2.2.2 = 0 then (if bt238.2.2.2.2.2.2 = 4 then (if bt246.2.2.2.2.2.2 = 4 then (if bt254.2.2.2.2.2.2 = 4 then ((blake_Sum.f (⟨#[97, 98, 99]⟩ : ByteArray)).bind fun t268 => (some (bt262.1.toList == ([120] : List UInt8) && (bt262.2.1 == 7 && (bt262.2.2.1 == 9 && (bt262.2.2.2.1 == 3 && (bt262.2.2.2.2.toList == t268.toList))))))) else (some false)) else (some false)) else (some false)) else (some false)) else (some false)) else (some false)) else (some false)) else (some false)))) else (none)) else (none)))) else (none)) else (none))) else (none))))))
end
def hamperlaw19_MetaNamesR.f (k : Nat)  : Option (Bool) := (hamperlaw19_works.f k).bind fun t152 => (if t152 = true then ((hamperlaw19_many.f k 255 (⟨#[97]⟩ : ByteArray)).bind fun t153 => ((some (([(⟨#[97]⟩ : ByteArray), (⟨#[46, 46, 46]⟩ : ByteArray), (⟨#[46, 97]⟩ : ByteArray), (⟨#[97, 46]⟩ : ByteArray), (⟨#[97, 32, 98]⟩ : ByteArray), (⟨#[195, 164, 47, 230, 151, 165]⟩ : ByteArray), (⟨#[0]⟩ : ByteArray), (⟨#[97, 92, 98]⟩ : ByteArray), t153, (⟨#[126]⟩ : ByteArray)] : List ByteArray) : List ByteArray)).bind fun y154 => (hamperlaw19_MetaNamesR.l0 k y154 (y154.length : Int) 0))) else (some false))
theorem hamperlaw19_MetaNamesR.mono_l : ∀ k, (∀ y0 y1 y2, LeO (hamperlaw19_MetaNamesR.l0 k y0 y1 y2) (hamperlaw19_MetaNamesR.l0 (k + 1) y0 y1 y2)) ∧ (∀ y0 y1 y2, LeO (hamperlaw19_MetaNamesR.l1 k y0 y1 y2) (hamperlaw19_MetaNamesR.l1 (k + 1) y0 y1 y2)) ∧ (∀ y0 y1 y2 y3 y4 y5 y6 y7, LeO (hamperlaw19_MetaNamesR.l2 k y0 y1 y2 y3 y4 y5 y6 y7) (hamperlaw19_MetaNamesR.l2 (k + 1) y0 y1 y2 y3 y4 y5 y6 y7))
  | 0 => ⟨fun _ _ _ r h => by simp [hamperlaw19_MetaNamesR.l0] at h, fun _ _ _ r h => by simp [hamperlaw19_MetaNamesR.l1] at h, fun _ _ _ _ _ _ _ _ r h => by simp [hamperlaw19_MetaNamesR.l2] at h⟩
  | k + 1 => by
    obtain ⟨ih0, ih1, ih2⟩ := hamperlaw19_MetaNamesR.mono_l k
    refine ⟨?_, ?_, ?_⟩
    · intro y0 y1 y2
      unfold hamperlaw19_MetaNamesR.l0
      repeat' first
      | (with_reducible exact ih0 _ _ _)
      | (with_reducible exact ih1 _ _ _)
      | (with_reducible exact ih2 _ _ _ _ _ _ _ _)
      | (with_reducible exact hamperlaw19_many.mono _ _ _)
      | (with_reducible exact hamperlaw19_said.mono _ _)
      | (with_reducible exact hamperlaw19_works.mono _)
      | (with_reducible exact LeO.refl _)
      | (with_reducible exact LeO.none _)
      | (with_reducible refine LeO.ite ?_ ?_)
      | (with_reducible refine LeO.bind ?_ (fun _ => ?_))
      | exact ih0 _ _ _
      | exact ih1 _ _ _
      | exact ih2 _ _ _ _ _ _ _ _
      | exact hamperlaw19_many.mono _ _ _
      | exact hamperlaw19_said.mono _ _
      | exact hamperlaw19_works.mono _
      | exact LeO.none _
      | refine LeO.ite ?_ ?_
      | refine LeO.bind ?_ (fun _ => ?_)
    · intro y0 y1 y2
      unfold hamperlaw19_MetaNamesR.l1
      repeat' first
      | (with_reducible exact ih0 _ _ _)
      | (with_reducible exact ih1 _ _ _)
      | (with_reducible exact ih2 _ _ _ _ _ _ _ _)
      | (with_reducible exact hamperlaw19_many.mono _ _ _)
      | (with_reducible exact hamperlaw19_said.mono _ _)
      | (with_reducible exact hamperlaw19_works.mono _)
      | (with_reducible exact LeO.refl _)
      | (with_reducible exact LeO.none _)
      | (with_reducible refine LeO.ite ?_ ?_)
      | (with_reducible refine LeO.bind ?_ (fun _ => ?_))
      | exact ih0 _ _ _
      | exact ih1 _ _ _
      | exact ih2 _ _ _ _ _ _ _ _
      | exact hamperlaw19_many.mono _ _ _
      | exact hamperlaw19_said.mono _ _
      | exact hamperlaw19_works.mono _
      | exact LeO.none _
      | refine LeO.ite ?_ ?_
      | refine LeO.bind ?_ (fun _ => ?_)
    · intro y0 y1 y2 y3 y4 y5 y6 y7
      unfold hamperlaw19_MetaNamesR.l2
      repeat' first
      | (with_reducible exact ih0 _ _ _)
      | (with_reducible exact ih1 _ _ _)
      | (with_reducible exact ih2 _ _ _ _ _ _ _ _)
      | (with_reducible exact hamperlaw19_many.mono _ _ _)
      | (with_reducible exact hamperlaw19_said.mono _ _)
      | (with_reducible exact hamperlaw19_works.mono _)
      | (with_reducible exact LeO.refl _)
      | (with_reducible exact LeO.none _)
      | (with_reducible refine LeO.ite ?_ ?_)
      | (with_reducible refine LeO.bind ?_ (fun _ => ?_))
      | exact ih0 _ _ _
      | exact ih1 _ _ _
      | exact ih2 _ _ _ _ _ _ _ _
      | exact hamperlaw19_many.mono _ _ _
      | exact hamperlaw19_said.mono _ _
      | exact hamperlaw19_works.mono _
      | exact LeO.none _
      | refine LeO.ite ?_ ?_
      | refine LeO.bind ?_ (fun _ => ?_)
theorem hamperlaw19_MetaNamesR.mono : ∀ k, LeO (hamperlaw19_MetaNamesR.f k ) (hamperlaw19_MetaNamesR.f (k + 1) ) := by
  intro  k
  obtain ⟨ih0, ih1, ih2⟩ := hamperlaw19_MetaNamesR.mono_l k
  unfold hamperlaw19_MetaNamesR.f
  repeat' first
      | (with_reducible exact ih0 _ _ _)
      | (with_reducible exact ih1 _ _ _)
      | (with_reducible exact ih2 _ _ _ _ _ _ _ _)
      | (with_reducible exact hamperlaw19_many.mono _ _ _)
      | (with_reducible exact hamperlaw19_said.mono _ _)
      | (with_reducible exact hamperlaw19_works.mono _)
      | (with_reducible exact LeO.refl _)
      | (with_reducible exact LeO.none _)
      | (with_reducible refine LeO.ite ?_ ?_)
      | (with_reducible refine LeO.bind ?_ (fun _ => ?_))
      | exact ih0 _ _ _
      | exact ih1 _ _ _
      | exact ih2 _ _ _ _ _ _ _ _
      | exact hamperlaw19_many.mono _ _ _
      | exact hamperlaw19_said.mono _ _
      | exact hamperlaw19_works.mono _
      | exact LeO.none _
      | refine LeO.ite ?_ ?_
      | refine LeO.bind ?_ (fun _ => ?_)
def hamperlaw19_MetaNamesR.T46 : Bool × List (List Nat × List Nat) := (true, [([], []), ([0], [0]), ([1], [1]), ([2], [2]), ([3, 2], [2, 3]), ([2, 4], [2, 4]), ([5, 2], [5]), ([6], [6]), ([6], [6]), ([7, 8, 6], [6, 7, 8]), ([6, 9], [6, 9]), ([10, 6], [10]), ([11], [11]), ([11], [11]), ([13, 11], [11, 13]), ([12, 14, 11], [11, 12, 14]), ([11, 15], [11, 15]), ([16, 11], [16]), ([17], [17]), ([18, 17], [17, 18]), ([17, 19], [17, 19]), ([20, 17], [20]), ([21], [21]), ([22, 21], [21, 22]), ([21, 23], [21, 23]), ([24, 21], [24]), ([25], [25]), ([26, 25], [25, 26]), ([25, 27], [25, 27]), ([28, 25], [28]), ([29], [29]), ([30, 29], [29, 30]), ([29, 31], [29, 31]), ([32, 29], [32]), ([33], [33]), ([33, 33], [33]), ([35, 33], [33, 35]), ([34, 36, 33], [33, 34, 36]), ([33, 37], [33, 37]), ([38, 35, 0, 1, 2, 3, 4, 5, 6, 7, 8, 9, 10, 11, 12, 13, 14, 15, 16, 17, 18, 19, 20, 21, 22, 23, 24, 25, 26, 27, 28, 29, 30, 31, 32, 33, 34, 35, 36, 37, 38], [38])])
def hamperlaw19_MetaNamesR.B46 : List Nat := [0, 1, 3, 7, 15, 31, 63, 127, 127, 511, 1023, 2047, 4095, 4095, 12287, 32767, 65535, 131071, 262143, 524287, 1048575, 2097151, 4194303, 8388607, 16777215, 33554431, 67108863, 134217727, 268435455, 536870911, 1073741823, 2147483647, 4294967295, 8589934591, 17179869183, 17179869183, 51539607551, 137438953471, 274877906943, 549755813887]
theorem hamperlaw19_MetaNamesR.tab46 : rtab .any (opsOf Tryd.f9 46) = hamperlaw19_MetaNamesR.T46 := by kernel_rfl
theorem hamperlaw19_MetaNamesR.bits46 : waitsOk hamperlaw19_MetaNamesR.T46.2 hamperlaw19_MetaNamesR.B46 = true := by kernel_rfl
end Go.Proofs.YteplphpbpaojjaaDoor.PMa
