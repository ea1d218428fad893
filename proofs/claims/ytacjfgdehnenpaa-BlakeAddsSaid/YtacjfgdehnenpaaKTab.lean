import Derived.Test.YtacjfgdehnenpaaProg
import Derived.Below
import Derived.Deep.Draws
import Derived.Deep.AppendLies
import Derived.Maps.AppendAt
import Derived.OwnWalk
import Derived.Laws.BytesArg
import Derived.Laws.MakeOwn
import Derived.Laws.OwnMore
import Derived.Deep.OwnRows
import Derived.Tactics
import Derived.Lib.ConvBytes
import Derived.Laws.Slices
import Derived.WalkKit
import Derived.KernelRfl
import Derived.RowKit3
import Derived.Deep.LoopGhost
import Derived.Deep.QuietTactic
import Derived.BigQuiet
import Derived.WideLaws
import Derived.Deep.DeepCutAuto
import Derived.Deep.CutBlock
import Derived.Deep.RegionHeld3
import Derived.Test.YtacjfgdehnenpaaWInvWords
import Derived.Laws.Rows
import Derived.Lib.AppendStr
import Derived.ArgAppend
import Derived.Laws.IdiomCopy
import Derived.OrdersHeld
import Derived.Laws.BitsLemmas
import Derived.RowKit
import Derived.Test.YtacjfgdehnenpaaWWords
import Derived.Test.YtacjfgdehnenpaaWLast
import Derived.Test.YtacjfgdehnenpaaWMore
import Derived.OpenShut
import Derived.Test.YtacjfgdehnenpaaBk12
import Derived.Test.YtacjfgdehnenpaaHandMix
import Derived.Test.YtacjfgdehnenpaaRefPure
import Derived.Test.YtacjfgdehnenpaaBytesRow
import Derived.Test.YtacjfgdehnenpaaWTab
namespace Go.Proofs.Ytacjfgdehnenpaa.Rf5
open Go.RowKit Go.Proofs.YtacjfgdehnenpaaW.PrintWords Go.Proofs.YtacjfgdehnenpaaW.PrintLast Go.Proofs.YtacjfgdehnenpaaW.PrintMore Go.Proofs.Ytacjfgdehnenpaa.PBlake
open Go.Proofs.Ytacjfgdehnenpaa.Bk (firstsL initL keyL strL digest blakeKeyed compress wordsL wordAt veeL outL outB rowsL mixL finL)
set_option linter.unusedVariables false
set_option linter.unusedSimpArgs false
attribute [local go_sem] max2_int min2_int max_two min_two max_three min_three max_four min_four
def blkOf (n : Nat) : Code → Option Code
  | .block m c => if m == n then some (.block m c) else blkOf n c
  | .seq a b => match blkOf n a with
    | some c => some c
    | none => blkOf n b
  | .loop c => blkOf n c
  | .scope c => blkOf n c
  | .cond _ a b => match blkOf n a with
    | some c => some c
    | none => blkOf n b
  | _ => none
def regOf (n : Nat) : Code → Option Code
  | .region m ops d => if m == n then some (.region m ops d) else none
  | .block _ c => regOf n c
  | .seq a b => match regOf n a with
    | some c => some c
    | none => regOf n b
  | .loop c => regOf n c
  | .scope c => regOf n c
  | .cond _ a b => match regOf n a with
    | some c => some c
    | none => regOf n b
  | _ => none
noncomputable def kBlk (n : Nat) : Code := (Try.f15.body.bind (blkOf n)).getD .skip
noncomputable def kReg (n : Nat) : Code := (Try.f15.body.bind (regOf n)).getD .skip
theorem infoU32 : (Try.prog.info? 43).map (fun i => (i.zero, i.size, i.bytes)) = some (some (.int .u32 0), 1, 4) := by kernel_rfl
theorem one_src (W : World) : Src Try.prog 1 45 (.slice (some ⟨W.heap.size, 0, none⟩) 1 1) 1 [.int .u8 0] (W.alloc (.cells #[.int .u8 0] 5)) := src_lit .u8 45 5 Try.underlying45 [0] 1 rfl W _ (blk_new W _)
theorem one_src32 (W : World) (x : Int) : Src Try.prog 1 57 (.slice (some ⟨W.heap.size, 0, none⟩) 1 1) 1 (nums .u32 [x]) (W.alloc (.cells #[.int .u32 x] 43)) := src_lit .u32 57 43 Try.underlying57 [x] 1 rfl W _ (blk_new W _)
def kT22 : Bool × List (List Nat × List Nat) := (true, [([], []), ([], []), ([], []), ([1, 2], [1, 2]), ([3], [3]), ([4], [4]), ([], []), ([], []), ([7], [7]), ([6, 8], [6, 8]), ([9], [9]), ([10], [10]), ([11], [11]), ([5, 12], [5, 12]), ([], []), ([], []), ([15], [15]), ([14, 16], [14, 16]), ([17], [17]), ([18], [18]), ([19], [19]), ([13, 20], [13, 20]), ([], []), ([], []), ([23], [23]), ([22, 24], [22, 24]), ([25], [25]), ([26], [26]), ([27], [27]), ([21, 28], [21, 28]), ([29], [29]), ([0, 30], [0, 30]), ([31, 31, 0, 1, 2, 3, 4, 5, 6, 7, 8, 9, 10, 11, 12, 13, 14, 15, 16, 17, 18, 19, 20, 21, 22, 23, 24, 25, 26, 27, 28, 29, 30, 31], [0, 31])])
def kB22 : List Nat := [0, 0, 0, 6, 14, 30, 0, 0, 128, 448, 960, 1984, 4032, 8190, 0, 0, 32768, 114688, 245760, 507904, 1032192, 2097150, 0, 0, 8388608, 29360128, 62914560, 130023424, 264241152, 536870910, 1073741822, 2147483647, 4294967295]
theorem kt22 : rtab .any (opsOf Try.f15 22) = kT22 := by kernel_rfl
theorem kb22 : waitsOk kT22.2 kB22 = true := by kernel_rfl
def kT33 : Bool × List (List Nat × List Nat) := (true, [([], []), ([], []), ([], []), ([2], [2]), ([3], [3]), ([1, 4], [1, 4]), ([5], [5]), ([], []), ([], []), ([8], [8]), ([9, 4], [9]), ([7, 10], [7, 10]), ([11], [11]), ([0, 6, 12, 10], [0, 6, 12])])
def kB33 : List Nat := [0, 0, 0, 4, 12, 30, 62, 0, 0, 256, 796, 1948, 3996, 8191]
theorem kt33 : rtab .any (opsOf Try.f15 33) = kT33 := by kernel_rfl
theorem kb33 : waitsOk kT33.2 kB33 = true := by kernel_rfl
def kT34 : Bool × List (List Nat × List Nat) := (true, [([], []), ([], []), ([], []), ([2], [2]), ([3], [3]), ([1, 4], [1, 4]), ([5], [5]), ([], []), ([], []), ([8], [8]), ([9, 4], [9]), ([7, 10], [7, 10]), ([11], [11]), ([0, 6, 12, 10], [0, 6, 12])])
def kB34 : List Nat := [0, 0, 0, 4, 12, 30, 62, 0, 0, 256, 796, 1948, 3996, 8191]
theorem kt34 : rtab .any (opsOf Try.f15 34) = kT34 := by kernel_rfl
theorem kb34 : waitsOk kT34.2 kB34 = true := by kernel_rfl
def kT35 : Bool × List (List Nat × List Nat) := (true, [([], []), ([], []), ([], []), ([2], [2]), ([3], [3]), ([1, 4], [1, 4]), ([5], [5]), ([], []), ([], []), ([8], [8]), ([9, 4], [9]), ([7, 10], [7, 10]), ([11], [11]), ([0, 6, 12, 10], [0, 6, 12])])
def kB35 : List Nat := [0, 0, 0, 4, 12, 30, 62, 0, 0, 256, 796, 1948, 3996, 8191]
theorem kt35 : rtab .any (opsOf Try.f15 35) = kT35 := by kernel_rfl
theorem kb35 : waitsOk kT35.2 kB35 = true := by kernel_rfl
def kT36 : Bool × List (List Nat × List Nat) := (true, [([], []), ([], []), ([], []), ([2], [2]), ([3], [3]), ([1, 4], [1, 4]), ([5], [5]), ([], []), ([], []), ([8], [8]), ([9, 4], [9]), ([7, 10], [7, 10]), ([11], [11]), ([0, 6, 12, 10], [0, 6, 12])])
def kB36 : List Nat := [0, 0, 0, 4, 12, 30, 62, 0, 0, 256, 796, 1948, 3996, 8191]
theorem kt36 : rtab .any (opsOf Try.f15 36) = kT36 := by kernel_rfl
theorem kb36 : waitsOk kT36.2 kB36 = true := by kernel_rfl
def kT37 : Bool × List (List Nat × List Nat) := (true, [([], []), ([], []), ([], []), ([2], [2]), ([3], [3]), ([1, 4], [1, 4]), ([5], [5]), ([], []), ([], []), ([8], [8]), ([9, 4], [9]), ([7, 10], [7, 10]), ([11], [11]), ([0, 6, 12, 10], [0, 6, 12])])
def kB37 : List Nat := [0, 0, 0, 4, 12, 30, 62, 0, 0, 256, 796, 1948, 3996, 8191]
theorem kt37 : rtab .any (opsOf Try.f15 37) = kT37 := by kernel_rfl
theorem kb37 : waitsOk kT37.2 kB37 = true := by kernel_rfl
def kT38 : Bool × List (List Nat × List Nat) := (true, [([], []), ([], []), ([], []), ([2], [2]), ([3], [3]), ([1, 4], [1, 4]), ([5], [5]), ([], []), ([], []), ([8], [8]), ([9, 4], [9]), ([7, 10], [7, 10]), ([11], [11]), ([0, 6, 12, 10], [0, 6, 12])])
def kB38 : List Nat := [0, 0, 0, 4, 12, 30, 62, 0, 0, 256, 796, 1948, 3996, 8191]
theorem kt38 : rtab .any (opsOf Try.f15 38) = kT38 := by kernel_rfl
theorem kb38 : waitsOk kT38.2 kB38 = true := by kernel_rfl
def kT39 : Bool × List (List Nat × List Nat) := (true, [([], []), ([], []), ([], []), ([2], [2]), ([3], [3]), ([1, 4], [1, 4]), ([5], [5]), ([], []), ([], []), ([8], [8]), ([9, 4], [9]), ([7, 10], [7, 10]), ([11], [11]), ([0, 6, 12, 10], [0, 6, 12])])
def kB39 : List Nat := [0, 0, 0, 4, 12, 30, 62, 0, 0, 256, 796, 1948, 3996, 8191]
theorem kt39 : rtab .any (opsOf Try.f15 39) = kT39 := by kernel_rfl
theorem kb39 : waitsOk kT39.2 kB39 = true := by kernel_rfl
def kT40 : Bool × List (List Nat × List Nat) := (true, [([], []), ([], []), ([], []), ([2], [2]), ([3], [3]), ([1, 4], [1, 4]), ([5], [5]), ([], []), ([], []), ([8], [8]), ([9, 4], [9]), ([7, 10], [7, 10]), ([11], [11]), ([0, 6, 12, 10], [0, 6, 12])])
def kB40 : List Nat := [0, 0, 0, 4, 12, 30, 62, 0, 0, 256, 796, 1948, 3996, 8191]
theorem kt40 : rtab .any (opsOf Try.f15 40) = kT40 := by kernel_rfl
theorem kb40 : waitsOk kT40.2 kB40 = true := by kernel_rfl
def kT44 : Bool × List (List Nat × List Nat) := (true, [([], []), ([], []), ([], []), ([], []), ([2, 3], [2, 3]), ([4], [4]), ([], []), ([], []), ([6, 7], [6, 7]), ([8], [8]), ([5, 9], [5, 9]), ([], []), ([], []), ([12], [12]), ([11, 13], [11, 13]), ([14], [14]), ([10, 15], [10, 15]), ([0, 1, 0, 1, 2, 3, 4, 5, 6, 7, 8, 9, 10, 11, 12, 13, 14, 15, 16], [0, 1]), ([17, 16, 0, 1, 2, 3, 4, 5, 6, 7, 8, 9, 10, 11, 12, 13, 14, 15, 16], [16, 17])])
def kB44 : List Nat := [0, 0, 0, 0, 12, 28, 0, 0, 192, 448, 1020, 0, 0, 4096, 14336, 30720, 65532, 131071, 262143]
theorem kt44 : rtab .any (opsOf Try.f15 44) = kT44 := by kernel_rfl
theorem kb44 : waitsOk kT44.2 kB44 = true := by kernel_rfl
def kT49 : Bool × List (List Nat × List Nat) := (true, [([], []), ([], []), ([], []), ([1, 2], [1, 2]), ([3], [3]), ([4], [4]), ([5], [5]), ([], []), ([], []), ([7, 8], [7, 8]), ([9], [9]), ([10], [10]), ([11], [11]), ([12], [12]), ([], []), ([], []), ([14, 15], [14, 15]), ([16], [16]), ([17], [17]), ([18], [18]), ([19], [19]), ([], []), ([], []), ([21, 22], [21, 22]), ([23], [23]), ([24], [24]), ([25], [25]), ([6, 13, 20, 26], [6, 13, 20, 26]), ([0, 27], [0, 27]), ([28, 28, 0, 1, 2, 3, 4, 5, 6, 7, 8, 9, 10, 11, 12, 13, 14, 15, 16, 17, 18, 19, 20, 21, 22, 23, 24, 25, 26, 27, 28], [0, 28])])
def kB49 : List Nat := [0, 0, 0, 6, 14, 30, 62, 0, 0, 384, 896, 1920, 3968, 8064, 0, 0, 49152, 114688, 245760, 507904, 1032192, 0, 0, 6291456, 14680064, 31457280, 65011712, 134217726, 268435455, 536870911]
theorem kt49 : rtab .any (opsOf Try.f15 49) = kT49 := by kernel_rfl
theorem kb49 : waitsOk kT49.2 kB49 = true := by kernel_rfl
end Go.Proofs.Ytacjfgdehnenpaa.Rf5
