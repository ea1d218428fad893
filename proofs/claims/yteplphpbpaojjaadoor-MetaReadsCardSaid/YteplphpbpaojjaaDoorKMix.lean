import Derived.Test.YteplphpbpaojjaaDoorProg
import Derived.Below
import Derived.Deep.Draws
import Derived.Deep.AppendLies
import Derived.Maps.AppendAt
import Derived.OwnWalk
import Derived.Laws.BytesArg
import Derived.Laws.MakeOwn
import Derived.Laws.OwnMore
import Derived.Deep.OwnRows
import Derived.Tactics
import Derived.Lib.ConvBytes
import Derived.Laws.Slices
import Derived.WalkKit
import Derived.KernelRfl
import Derived.RowKit3
import Derived.Deep.LoopGhost
import Derived.Deep.QuietTactic
import Derived.BigQuiet
import Derived.WideLaws
import Derived.Deep.DeepCutAuto
import Derived.Deep.CutBlock
import Derived.Deep.RegionHeld3
import Derived.Test.YteplphpbpaojjaaDoorWInvWords
import Derived.Laws.Rows
import Derived.Lib.AppendStr
import Derived.ArgAppend
import Derived.Laws.IdiomCopy
import Derived.OrdersHeld
import Derived.Laws.BitsLemmas
import Derived.RowKit
import Derived.Test.YteplphpbpaojjaaDoorWWords
import Derived.Test.YteplphpbpaojjaaDoorWLast
import Derived.Test.YteplphpbpaojjaaDoorWMore
import Derived.OpenShut
import Derived.Test.YteplphpbpaojjaaDoorBk12
import Derived.Test.YteplphpbpaojjaaDoorKTab
import Derived.Test.YteplphpbpaojjaaDoorPRefx53
namespace Go.Proofs.YteplphpbpaojjaaDoor.Rf5
def lbKMix (n m : Nat) : Array Bool := ((List.range n).map m.testBit).toArray
open Go.RowKit Go.Proofs.YteplphpbpaojjaaDoorW.PrintWords Go.Proofs.YteplphpbpaojjaaDoorW.PrintLast Go.Proofs.YteplphpbpaojjaaDoorW.PrintMore Go.Proofs.YteplphpbpaojjaaDoor.PRef
open Go.Proofs.YteplphpbpaojjaaDoor.Bk (firstsL initL keyL strL digest blakeKeyed compress wordsL wordAt veeL outL outB rowsL mixL finL)
set_option linter.unusedVariables false
set_option linter.unusedSimpArgs false
attribute [local go_sem] max2_int min2_int max_two min_two max_three min_three max_four min_four
theorem VAt.drewN {W : World} {g : Nat} {L : List Int} (h : VAt W g L) (n : Nat) : VAt (W.drewN n) g L := ⟨h.cell, h.free⟩
set_option maxHeartbeats 8000000 in
set_option maxRecDepth 1000000 in
theorem m_mix0 {u0 u1 u2 u3 u4 u5 u6 u7 u8 u9 u10 u11 u12 u14 u16 u17 u19 u20 u21 u22 u23 u24 u25 u26 u27 u28 u29 u30 u31 u32 u33 u34 u35 u36 u37 u38 u39 u40 u41 u42 u43 u44 u45 u46 u47 u48 u49 u50 u51 u52 u53 u54 u55 u56 u57 u58 u59 u60 u61 u62 u63 u64 u65 u66 u67 u68 u69 u70 u71 u72 u73 u74 u75 u76 u77 u78 u79 u80 u81 u82 u83 u84 u85 u86 u87 u88 u89 u90 u91 u92 u93 u94 u95 u96 u97 u98 u99 u100 u101 u102 u103 u104 u105 u106 u107 u108 u109 u110 u111 u112 u113 u114 u115 u116 u117 u118 u119 u120 u121 u122 u123 u124 u125 u126 u127 u128 u129 u130 u131 u132 u133 u134 u135 u136 u137 u138 u139 u140 u141 u142 u143 u144 u145 u146 u147 u148 u149 u150 u151 u152 u153 u154 u155 u156 u157 u158 u159 u160 u161 u162 u163 u164 u165 u166 u167 u168 u169 u170 u171 u172 u173 u174 u175 u176 u177 u178 u179 u180 u181 u182 u183 u184 u185 u186 u187 u188 u189 u190 u191 u192 u193 u194 u195 u196 u197 u198 u199 u200 u201 u202 u203 u204 u205 u206 u207 u208 u209 u210 u211 u212 u213 u214 u215 u216 u217 u218 u219 u220 u221 u222 u223 u224 u225 u226 u227 u228 u229 u230 u231 u232 u233 u234 u235 u236 u237 u238 u239 u240 u241 u242 u243 u244 u245 u246 u247 u248 u249 u250 u251 u252 u253 u254 u255 u256 u257 u258 u259 u260 u261 u262 u263 u264 u265 u266 u267 u268 u269 u270 u271 u272 u273 u274 u275 u276 u277 u278 u279 u280 u281 u282 u283 u284 u285 u286 u287 u288 u289 u290 u291 u292 u293 u294 u295 u296 u297 u298 u299 u300 u301 u302 u303 u304 u305 u306 u307 u308 u309 u310 u311 u312 u313 u314 u315 u316 u317 u318 u319 u320 u321 u322 u323 u324 u325 u326 u327 u328 u329 u330 u331 u332 : Value} (gv cv gm cm : Nat) (P : ByteArray) (V Ms : List Int) (t0 t1 : Int) (W : World) (hP : P.size = 16) (ht0 : hamperref05_place.f (bt P 0) = some t0) (ht1 : hamperref05_place.f (bt P 1) = some t1) (h00 : 0 ≤ t0) (h01 : t0 < 16) (h10 : 0 ≤ t1) (h11 : t1 < 16)
    (hm : ∀ j, j < 16 → W.cell? ⟨gm, j, none⟩ = some (.int .u32 (Ms.getD j 0))) (hne : gm ≠ gv) (hl : V.length = 16) (hV : VAt W gv V) {K : Act → World → Prop} {Q : Exit → Act → World → Prop} (hQ : ∀ c a a' w, Q (Exit.panic c) a w → a.defers = a'.defers → Q (Exit.panic c) a' w)
    (hK : ∀ (x164 x165 x166 x167 x168 x169 x170 x171 x172 x173 x174 x175 x176 x177 : Value) (w' : World), VAt w' gv (mixL V 0 4 8 12 (Ms.getD t0.toNat 0) (Ms.getD t1.toNat 0)) → Bk.KeepBut W w' gv none → K ⟨#[u0, u1, u2, u3, u4, u5, u6, u7, u8, u9, u10, u11, u12, .slice (some ⟨gm, 0, none⟩) 16 cm, u14, .slice (some ⟨gv, 0, none⟩) 16 cv, u16, u17, .string P, u19, u20, u21, u22, u23, u24, u25, u26, u27, u28, u29, u30, u31, u32, u33, u34, u35, u36, u37, u38, u39, u40, u41, u42, u43, u44, u45, u46, u47, u48, u49, u50, u51, u52, u53, u54, u55, u56, u57, u58, u59, u60, u61, u62, u63, u64, u65, u66, u67, u68, u69, u70, u71, u72, u73, u74, u75, u76, u77, u78, u79, u80, u81, u82, u83, u84, u85, u86, u87, u88, u89, u90, u91, u92, u93, u94, u95, u96, u97, u98, u99, u100, u101, u102, u103, u104, u105, u106, u107, u108, u109, u110, u111, u112, u113, u114, u115, u116, u117, u118, u119, u120, u121, u122, u123, u124, u125, u126, u127, u128, u129, u130, u131, u132, u133, u134, u135, u136, u137, u138, u139, u140, u141, u142, u143, u144, u145, u146, u147, u148, u149, u150, u151, u152, u153, u154, u155, u156, u157, u158, u159, u160, u161, u162, u163, x164, x165, x166, x167, x168, x169, x170, x171, x172, x173, x174, x175, x176, x177, u178, u179, u180, u181, u182, u183, u184, u185, u186, u187, u188, u189, u190, u191, u192, u193, u194, u195, u196, u197, u198, u199, u200, u201, u202, u203, u204, u205, u206, u207, u208, u209, u210, u211, u212, u213, u214, u215, u216, u217, u218, u219, u220, u221, u222, u223, u224, u225, u226, u227, u228, u229, u230, u231, u232, u233, u234, u235, u236, u237, u238, u239, u240, u241, u242, u243, u244, u245, u246, u247, u248, u249, u250, u251, u252, u253, u254, u255, u256, u257, u258, u259, u260, u261, u262, u263, u264, u265, u266, u267, u268, u269, u270, u271, u272, u273, u274, u275, u276, u277, u278, u279, u280, u281, u282, u283, u284, u285, u286, u287, u288, u289, u290, u291, u292, u293, u294, u295, u296, u297, u298, u299, u300, u301, u302, u303, u304, u305, u306, u307, u308, u309, u310, u311, u312, u313, u314, u315, u316, u317, u318, u319, u320, u321, u322, u323, u324, u325, u326, u327, u328, u329, u330, u331, u332], []⟩ w') :
    Code.wp Tryd.prog (kReg 33) (Exit.then K Q) ⟨#[u0, u1, u2, u3, u4, u5, u6, u7, u8, u9, u10, u11, u12, .slice (some ⟨gm, 0, none⟩) 16 cm, u14, .slice (some ⟨gv, 0, none⟩) 16 cv, u16, u17, .string P, u19, u20, u21, u22, u23, u24, u25, u26, u27, u28, u29, u30, u31, u32, u33, u34, u35, u36, u37, u38, u39, u40, u41, u42, u43, u44, u45, u46, u47, u48, u49, u50, u51, u52, u53, u54, u55, u56, u57, u58, u59, u60, u61, u62, u63, u64, u65, u66, u67, u68, u69, u70, u71, u72, u73, u74, u75, u76, u77, u78, u79, u80, u81, u82, u83, u84, u85, u86, u87, u88, u89, u90, u91, u92, u93, u94, u95, u96, u97, u98, u99, u100, u101, u102, u103, u104, u105, u106, u107, u108, u109, u110, u111, u112, u113, u114, u115, u116, u117, u118, u119, u120, u121, u122, u123, u124, u125, u126, u127, u128, u129, u130, u131, u132, u133, u134, u135, u136, u137, u138, u139, u140, u141, u142, u143, u144, u145, u146, u147, u148, u149, u150, u151, u152, u153, u154, u155, u156, u157, u158, u159, u160, u161, u162, u163, u164, u165, u166, u167, u168, u169, u170, u171, u172, u173, u174, u175, u176, u177, u178, u179, u180, u181, u182, u183, u184, u185, u186, u187, u188, u189, u190, u191, u192, u193, u194, u195, u196, u197, u198, u199, u200, u201, u202, u203, u204, u205, u206, u207, u208, u209, u210, u211, u212, u213, u214, u215, u216, u217, u218, u219, u220, u221, u222, u223, u224, u225, u226, u227, u228, u229, u230, u231, u232, u233, u234, u235, u236, u237, u238, u239, u240, u241, u242, u243, u244, u245, u246, u247, u248, u249, u250, u251, u252, u253, u254, u255, u256, u257, u258, u259, u260, u261, u262, u263, u264, u265, u266, u267, u268, u269, u270, u271, u272, u273, u274, u275, u276, u277, u278, u279, u280, u281, u282, u283, u284, u285, u286, u287, u288, u289, u290, u291, u292, u293, u294, u295, u296, u297, u298, u299, u300, u301, u302, u303, u304, u305, u306, u307, u308, u309, u310, u311, u312, u313, u314, u315, u316, u317, u318, u319, u320, u321, u322, u323, u324, u325, u326, u327, u328, u329, u330, u331, u332], []⟩ W := by
  have HK := Aside0.mk hK
  have HQ := Aside0.mk hQ
  have HV := Aside0.mk hV
  have HL := Aside0.mk hl
  have HNE := Aside0.mk hne
  have Ht0 := Aside0.mk ht0
  have Ht1 := Aside0.mk ht1
  obtain ⟨x, hx⟩ : ∃ x, x = Ms.getD t0.toNat 0 := ⟨_, rfl⟩
  obtain ⟨y, hy⟩ : ∃ y, y = Ms.getD t1.toNat 0 := ⟨_, rfl⟩
  have hx0 : W.cell? ⟨gm, (t0).toNat, none⟩ = some (.int .u32 x) := by rw [hx]; exact hm _ (by omega)
  have hx1 : W.cell? ⟨gm, (t1).toNat, none⟩ = some (.int .u32 y) := by rw [hy]; exact hm _ (by omega)
  have HX := Aside0.mk (And.intro hx hy)
  have p0 := eq_true h00
  have q0 := eq_true h01
  have p1 := eq_true h10
  have q1 := eq_true h11
  have pa := eq_true (show 0 < P.size by omega)
  have qa := eq_true (show ((0 : Int) < (P.size : Int)) by omega)
  have pb := eq_true (show 1 < P.size by omega)
  have qb := eq_true (show ((1 : Int) < (P.size : Int)) by omega)
  have ra : ∀ h : 0 < P.size, (((P[0]'h).toNat : Nat) : Int) = bt P 0 := bt_at P 0
  have rb : ∀ h : 1 < P.size, (((P[1]'h).toNat : Nat) : Int) = bt P 1 := bt_at P 1
  clear hP hm hK hQ hV hl hne ht0 ht1 hx hy h00 h01 h10 h11
  conv => arg 2; whnf
  refine start_ (n := 14) (S := fun w' => w'.cell? ⟨gm, (t0).toNat, none⟩ = some (.int .u32 x) ∧ w'.cell? ⟨gm, (t1).toNat, none⟩ = some (.int .u32 y)) (ds := []) #[false, false, false, false, false, false, false, false, false, false, false, false, false, false] (by kernel_rfl) rfl rfl ⟨hx0, hx1⟩ (fun hHeld => ?_); refine with_tabW kt33 kb33 (fun HT_ HW_ => ?_)
  have HVd := Aside0.mk HV.out.drew
  clear hx0 hx1
  obtain ⟨wd, hwd⟩ : ∃ W', W' = W.drew := ⟨_, rfl⟩
  rw [← hwd] at HVd hHeld ⊢
  have HWD := Aside0.mk hwd
  clear hwd
  refine pure_ (i := 0) (N := some 164) (v := ?_) (a' := ?_) (lbKMix 14 1) rfl rfl (any_of HT_.out (by kernel_rfl)) (fun _ _ _ h => HQ.out _ _ _ _ h rfl) (Or.inl ⟨by rfl, ?_⟩) ?_ ?_
  rotate_left
  · intro w'
    go_simp
    with_reducible rfl
  rotate_left
  · simp only [Act.put, List.setIfInBounds_toArray, List.set_cons_zero, List.set_cons_succ, i64_w, i32_w]
    rfl
  refine pure_ (i := 1) (N := some 165) (v := ?_) (a' := ?_) (lbKMix 14 3) rfl rfl (any_of HT_.out (by kernel_rfl)) (fun _ _ _ h => HQ.out _ _ _ _ h rfl) (Or.inl ⟨by rfl, ?_⟩) ?_ ?_
  rotate_left
  · intro w'
    go_simp
    with_reducible rfl
  rotate_left
  · simp only [Act.put, List.setIfInBounds_toArray, List.set_cons_zero, List.set_cons_succ, i64_w, i32_w]
    rfl
  refine pure_ (i := 2) (N := some 166) (v := ?_) (a' := ?_) (lbKMix 14 7) rfl rfl (any_of HT_.out (by kernel_rfl)) (fun _ _ _ h => HQ.out _ _ _ _ h rfl) (Or.inl ⟨by rfl, ?_⟩) ?_ ?_
  rotate_left
  · intro w'
    go_simp
    with_reducible rfl
  rotate_left
  · simp only [Act.put, List.setIfInBounds_toArray, List.set_cons_zero, List.set_cons_succ, i64_w, i32_w]
    rfl
  refine pure_ (i := 7) (N := some 171) (v := ?_) (a' := ?_) (lbKMix 14 135) rfl rfl (any_of HT_.out (by kernel_rfl)) (fun _ _ _ h => HQ.out _ _ _ _ h rfl) (Or.inl ⟨by rfl, ?_⟩) ?_ ?_
  rotate_left
  · intro w'
    go_simp
    with_reducible rfl
  rotate_left
  · simp only [Act.put, List.setIfInBounds_toArray, List.set_cons_zero, List.set_cons_succ, i64_w, i32_w]
    rfl
  refine pure_ (i := 8) (N := some 172) (v := ?_) (a' := ?_) (lbKMix 14 391) rfl rfl (any_of HT_.out (by kernel_rfl)) (fun _ _ _ h => HQ.out _ _ _ _ h rfl) (Or.inl ⟨by rfl, ?_⟩) ?_ ?_
  rotate_left
  · intro w'
    go_simp
    with_reducible rfl
  rotate_left
  · simp only [Act.put, List.setIfInBounds_toArray, List.set_cons_zero, List.set_cons_succ, i64_w, i32_w]
    rfl
  refine take_ (i := 3) (N := some 167) (v := ?_) (a' := ?_) (lbKMix 14 399) rfl rfl (take_ofW HT_.out HW_.out (by kernel_rfl)) (fun _ _ _ h => HQ.out _ _ _ _ h rfl) (Or.inl ⟨by rfl, ?_⟩) hHeld ?_ ?_
  rotate_left
  · rintro w' ⟨s0, s1⟩
    go_simp
    with_reducible rfl
  rotate_left
  · simp only [Act.put, List.setIfInBounds_toArray, List.set_cons_zero, List.set_cons_succ, i64_w, i32_w]
    rfl
  refine take_ (i := 9) (N := some 173) (v := ?_) (a' := ?_) (lbKMix 14 911) rfl rfl (take_ofW HT_.out HW_.out (by kernel_rfl)) (fun _ _ _ h => HQ.out _ _ _ _ h rfl) (Or.inl ⟨by rfl, ?_⟩) hHeld ?_ ?_
  rotate_left
  · rintro w' ⟨s0, s1⟩
    go_simp
    with_reducible rfl
  rotate_left
  · simp only [Act.put, List.setIfInBounds_toArray, List.set_cons_zero, List.set_cons_succ, i64_w, i32_w]
    rfl
  refine one_ (i := 4) (N := some 168) (lbKMix 14 927) rfl rfl (one_of HT_.out (by kernel_rfl)) (by decide) (fun K hK => ?_)
  refine goes_ Tryd.func60 (by kernel_rfl) rfl #[.int .u8 (bt P 0)] (by rfl) rfl rfl (by (try simp only [List.map_toArray, List.map_cons, List.map_nil]); first | done | rfl) ?_
  with_reducible refine (hamperref05_place.calls (bt P 0) t0 _ Ht0.out).mono ?_
  rintro e w' ⟨rfl, ⟨n0, rfl⟩⟩
  refine ⟨_, rfl, ?_⟩
  refine hK.out _ _ ⟨hHeld.1, hHeld.2⟩ (fun hHeld => ?_)
  clear hK K
  refine norm_ (a' := ?_) ?_ ?_
  rotate_left
  · show Act.put _ (some 168) _ = _
    simp only [Act.put, List.setIfInBounds_toArray, List.set_cons_zero, List.set_cons_succ, i64_w, i32_w]
    rfl
  refine pure_ (i := 5) (N := some 169) (v := ?_) (a' := ?_) (lbKMix 14 959) rfl rfl (any_of HT_.out (by kernel_rfl)) (fun _ _ _ h => HQ.out _ _ _ _ h rfl) (Or.inl ⟨by rfl, ?_⟩) ?_ ?_
  rotate_left
  · intro w'
    go_simp
    with_reducible rfl
  rotate_left
  · simp only [Act.put, List.setIfInBounds_toArray, List.set_cons_zero, List.set_cons_succ, i64_w, i32_w]
    rfl
  refine take_ (i := 6) (N := some 170) (v := ?_) (a' := ?_) (lbKMix 14 1023) rfl rfl (take_ofW HT_.out HW_.out (by kernel_rfl)) (fun _ _ _ h => HQ.out _ _ _ _ h rfl) (Or.inl ⟨by rfl, ?_⟩) hHeld ?_ ?_
  rotate_left
  · rintro w' ⟨s0, s1⟩
    go_simp
    with_reducible rfl
  rotate_left
  · simp only [Act.put, List.setIfInBounds_toArray, List.set_cons_zero, List.set_cons_succ, i64_w, i32_w]
    rfl
  refine one_ (i := 10) (N := some 174) (lbKMix 14 2047) rfl rfl (one_of HT_.out (by kernel_rfl)) (by decide) (fun K hK => ?_)
  refine goes_ Tryd.func60 (by kernel_rfl) rfl #[.int .u8 (bt P 1)] (by rfl) rfl rfl (by (try simp only [List.map_toArray, List.map_cons, List.map_nil]); first | done | rfl) ?_
  with_reducible refine (hamperref05_place.calls (bt P 1) t1 _ Ht1.out).mono ?_
  rintro e w' ⟨rfl, ⟨n1, rfl⟩⟩
  refine ⟨_, rfl, ?_⟩
  refine hK.out _ _ ⟨hHeld.1, hHeld.2⟩ (fun hHeld => ?_)
  clear hK K
  refine norm_ (a' := ?_) ?_ ?_
  rotate_left
  · show Act.put _ (some 174) _ = _
    simp only [Act.put, List.setIfInBounds_toArray, List.set_cons_zero, List.set_cons_succ, i64_w, i32_w]
    rfl
  refine pure_ (i := 11) (N := some 175) (v := ?_) (a' := ?_) (lbKMix 14 4095) rfl rfl (any_of HT_.out (by kernel_rfl)) (fun _ _ _ h => HQ.out _ _ _ _ h rfl) (Or.inl ⟨by rfl, ?_⟩) ?_ ?_
  rotate_left
  · intro w'
    go_simp
    with_reducible rfl
  rotate_left
  · simp only [Act.put, List.setIfInBounds_toArray, List.set_cons_zero, List.set_cons_succ, i64_w, i32_w]
    rfl
  refine take_ (i := 12) (N := some 176) (v := ?_) (a' := ?_) (lbKMix 14 8191) rfl rfl (take_ofW HT_.out HW_.out (by kernel_rfl)) (fun _ _ _ h => HQ.out _ _ _ _ h rfl) (Or.inl ⟨by rfl, ?_⟩) hHeld ?_ ?_
  rotate_left
  · rintro w' ⟨s0, s1⟩
    go_simp
    with_reducible rfl
  rotate_left
  · simp only [Act.put, List.setIfInBounds_toArray, List.set_cons_zero, List.set_cons_succ, i64_w, i32_w]
    rfl
  refine one_ (i := 13) (N := some 177) (lbKMix 14 16383) rfl rfl (one_of HT_.out (by kernel_rfl)) (by decide) (fun K hK => ?_)
  refine goes_ Tryd.func59 (by kernel_rfl) rfl #[.slice (some ⟨gv, 0, none⟩) 16 cv, .int .i64 0, .int .i64 4, .int .i64 8, .int .i64 12, .int .u32 x, .int .u32 y] (by rfl) rfl rfl (by (try simp only [List.map_toArray, List.map_cons, List.map_nil]); first | done | rfl) ?_
  have hc := mix_calls gv cv V 0 4 8 12 x y ((wd.drewN n0).drewN n1) ((HVd.out.drewN n0).drewN n1) HL.out (by decide) (by decide) (by decide) (by decide) (by decide) (by decide) (by decide) (by decide) (by decide) (by decide)
  refine Calls.mono (show Calls _ _ _ _ _ from hc) ?_
  rintro e w5 ⟨rfl, hv, hk⟩
  refine ⟨_, rfl, ?_⟩
  have hs0 := Bk.keep_cell hk hHeld.1 HNE.out
  have hs1 := Bk.keep_cell hk hHeld.2 HNE.out
  have HV5 := Aside0.mk hv
  have HK5 := Aside0.mk hk
  clear hv hk hc
  refine hK.out _ _ ⟨hs0, hs1⟩ (fun hHeld => ?_)
  clear hK K
  refine norm_ (a' := ?_) ?_ ?_
  rotate_left
  · show Act.put _ (some 177) _ = _
    simp only [Act.put, List.setIfInBounds_toArray, List.set_cons_zero, List.set_cons_succ, i64_w, i32_w]
    rfl
  refine done_ (done_of HT_.out (by kernel_rfl)) ?_
  go_wp2_with fail
  refine HK.out _ _ _ _ _ _ _ _ _ _ _ _ _ _ _ ?_ ?_
  · rw [← HX.out.1, ← HX.out.2]
    exact HV5.out
  · have hk := HK5.out
    rw [HWD.out] at hk
    exact ⟨hk.size, hk.block, hk.os, hk.tape, hk.output⟩
set_option maxHeartbeats 8000000 in
set_option maxRecDepth 1000000 in
theorem m_mix1 {u0 u1 u2 u3 u4 u5 u6 u7 u8 u9 u10 u11 u12 u14 u16 u17 u19 u20 u21 u22 u23 u24 u25 u26 u27 u28 u29 u30 u31 u32 u33 u34 u35 u36 u37 u38 u39 u40 u41 u42 u43 u44 u45 u46 u47 u48 u49 u50 u51 u52 u53 u54 u55 u56 u57 u58 u59 u60 u61 u62 u63 u64 u65 u66 u67 u68 u69 u70 u71 u72 u73 u74 u75 u76 u77 u78 u79 u80 u81 u82 u83 u84 u85 u86 u87 u88 u89 u90 u91 u92 u93 u94 u95 u96 u97 u98 u99 u100 u101 u102 u103 u104 u105 u106 u107 u108 u109 u110 u111 u112 u113 u114 u115 u116 u117 u118 u119 u120 u121 u122 u123 u124 u125 u126 u127 u128 u129 u130 u131 u132 u133 u134 u135 u136 u137 u138 u139 u140 u141 u142 u143 u144 u145 u146 u147 u148 u149 u150 u151 u152 u153 u154 u155 u156 u157 u158 u159 u160 u161 u162 u163 u164 u165 u166 u167 u168 u169 u170 u171 u172 u173 u174 u175 u176 u177 u178 u179 u180 u181 u182 u183 u184 u185 u186 u187 u188 u189 u190 u191 u192 u193 u194 u195 u196 u197 u198 u199 u200 u201 u202 u203 u204 u205 u206 u207 u208 u209 u210 u211 u212 u213 u214 u215 u216 u217 u218 u219 u220 u221 u222 u223 u224 u225 u226 u227 u228 u229 u230 u231 u232 u233 u234 u235 u236 u237 u238 u239 u240 u241 u242 u243 u244 u245 u246 u247 u248 u249 u250 u251 u252 u253 u254 u255 u256 u257 u258 u259 u260 u261 u262 u263 u264 u265 u266 u267 u268 u269 u270 u271 u272 u273 u274 u275 u276 u277 u278 u279 u280 u281 u282 u283 u284 u285 u286 u287 u288 u289 u290 u291 u292 u293 u294 u295 u296 u297 u298 u299 u300 u301 u302 u303 u304 u305 u306 u307 u308 u309 u310 u311 u312 u313 u314 u315 u316 u317 u318 u319 u320 u321 u322 u323 u324 u325 u326 u327 u328 u329 u330 u331 u332 : Value} (gv cv gm cm : Nat) (P : ByteArray) (V Ms : List Int) (t0 t1 : Int) (W : World) (hP : P.size = 16) (ht0 : hamperref05_place.f (bt P 2) = some t0) (ht1 : hamperref05_place.f (bt P 3) = some t1) (h00 : 0 ≤ t0) (h01 : t0 < 16) (h10 : 0 ≤ t1) (h11 : t1 < 16)
    (hm : ∀ j, j < 16 → W.cell? ⟨gm, j, none⟩ = some (.int .u32 (Ms.getD j 0))) (hne : gm ≠ gv) (hl : V.length = 16) (hV : VAt W gv V) {K : Act → World → Prop} {Q : Exit → Act → World → Prop} (hQ : ∀ c a a' w, Q (Exit.panic c) a w → a.defers = a'.defers → Q (Exit.panic c) a' w)
    (hK : ∀ (x178 x179 x180 x181 x182 x183 x184 x185 x186 x187 x188 x189 x190 x191 : Value) (w' : World), VAt w' gv (mixL V 1 5 9 13 (Ms.getD t0.toNat 0) (Ms.getD t1.toNat 0)) → Bk.KeepBut W w' gv none → K ⟨#[u0, u1, u2, u3, u4, u5, u6, u7, u8, u9, u10, u11, u12, .slice (some ⟨gm, 0, none⟩) 16 cm, u14, .slice (some ⟨gv, 0, none⟩) 16 cv, u16, u17, .string P, u19, u20, u21, u22, u23, u24, u25, u26, u27, u28, u29, u30, u31, u32, u33, u34, u35, u36, u37, u38, u39, u40, u41, u42, u43, u44, u45, u46, u47, u48, u49, u50, u51, u52, u53, u54, u55, u56, u57, u58, u59, u60, u61, u62, u63, u64, u65, u66, u67, u68, u69, u70, u71, u72, u73, u74, u75, u76, u77, u78, u79, u80, u81, u82, u83, u84, u85, u86, u87, u88, u89, u90, u91, u92, u93, u94, u95, u96, u97, u98, u99, u100, u101, u102, u103, u104, u105, u106, u107, u108, u109, u110, u111, u112, u113, u114, u115, u116, u117, u118, u119, u120, u121, u122, u123, u124, u125, u126, u127, u128, u129, u130, u131, u132, u133, u134, u135, u136, u137, u138, u139, u140, u141, u142, u143, u144, u145, u146, u147, u148, u149, u150, u151, u152, u153, u154, u155, u156, u157, u158, u159, u160, u161, u162, u163, u164, u165, u166, u167, u168, u169, u170, u171, u172, u173, u174, u175, u176, u177, x178, x179, x180, x181, x182, x183, x184, x185, x186, x187, x188, x189, x190, x191, u192, u193, u194, u195, u196, u197, u198, u199, u200, u201, u202, u203, u204, u205, u206, u207, u208, u209, u210, u211, u212, u213, u214, u215, u216, u217, u218, u219, u220, u221, u222, u223, u224, u225, u226, u227, u228, u229, u230, u231, u232, u233, u234, u235, u236, u237, u238, u239, u240, u241, u242, u243, u244, u245, u246, u247, u248, u249, u250, u251, u252, u253, u254, u255, u256, u257, u258, u259, u260, u261, u262, u263, u264, u265, u266, u267, u268, u269, u270, u271, u272, u273, u274, u275, u276, u277, u278, u279, u280, u281, u282, u283, u284, u285, u286, u287, u288, u289, u290, u291, u292, u293, u294, u295, u296, u297, u298, u299, u300, u301, u302, u303, u304, u305, u306, u307, u308, u309, u310, u311, u312, u313, u314, u315, u316, u317, u318, u319, u320, u321, u322, u323, u324, u325, u326, u327, u328, u329, u330, u331, u332], []⟩ w') :
    Code.wp Tryd.prog (kReg 34) (Exit.then K Q) ⟨#[u0, u1, u2, u3, u4, u5, u6, u7, u8, u9, u10, u11, u12, .slice (some ⟨gm, 0, none⟩) 16 cm, u14, .slice (some ⟨gv, 0, none⟩) 16 cv, u16, u17, .string P, u19, u20, u21, u22, u23, u24, u25, u26, u27, u28, u29, u30, u31, u32, u33, u34, u35, u36, u37, u38, u39, u40, u41, u42, u43, u44, u45, u46, u47, u48, u49, u50, u51, u52, u53, u54, u55, u56, u57, u58, u59, u60, u61, u62, u63, u64, u65, u66, u67, u68, u69, u70, u71, u72, u73, u74, u75, u76, u77, u78, u79, u80, u81, u82, u83, u84, u85, u86, u87, u88, u89, u90, u91, u92, u93, u94, u95, u96, u97, u98, u99, u100, u101, u102, u103, u104, u105, u106, u107, u108, u109, u110, u111, u112, u113, u114, u115, u116, u117, u118, u119, u120, u121, u122, u123, u124, u125, u126, u127, u128, u129, u130, u131, u132, u133, u134, u135, u136, u137, u138, u139, u140, u141, u142, u143, u144, u145, u146, u147, u148, u149, u150, u151, u152, u153, u154, u155, u156, u157, u158, u159, u160, u161, u162, u163, u164, u165, u166, u167, u168, u169, u170, u171, u172, u173, u174, u175, u176, u177, u178, u179, u180, u181, u182, u183, u184, u185, u186, u187, u188, u189, u190, u191, u192, u193, u194, u195, u196, u197, u198, u199, u200, u201, u202, u203, u204, u205, u206, u207, u208, u209, u210, u211, u212, u213, u214, u215, u216, u217, u218, u219, u220, u221, u222, u223, u224, u225, u226, u227, u228, u229, u230, u231, u232, u233, u234, u235, u236, u237, u238, u239, u240, u241, u242, u243, u244, u245, u246, u247, u248, u249, u250, u251, u252, u253, u254, u255, u256, u257, u258, u259, u260, u261, u262, u263, u264, u265, u266, u267, u268, u269, u270, u271, u272, u273, u274, u275, u276, u277, u278, u279, u280, u281, u282, u283, u284, u285, u286, u287, u288, u289, u290, u291, u292, u293, u294, u295, u296, u297, u298, u299, u300, u301, u302, u303, u304, u305, u306, u307, u308, u309, u310, u311, u312, u313, u314, u315, u316, u317, u318, u319, u320, u321, u322, u323, u324, u325, u326, u327, u328, u329, u330, u331, u332], []⟩ W := by
  have HK := Aside0.mk hK
  have HQ := Aside0.mk hQ
  have HV := Aside0.mk hV
  have HL := Aside0.mk hl
  have HNE := Aside0.mk hne
  have Ht0 := Aside0.mk ht0
  have Ht1 := Aside0.mk ht1
  obtain ⟨x, hx⟩ : ∃ x, x = Ms.getD t0.toNat 0 := ⟨_, rfl⟩
  obtain ⟨y, hy⟩ : ∃ y, y = Ms.getD t1.toNat 0 := ⟨_, rfl⟩
  have hx0 : W.cell? ⟨gm, (t0).toNat, none⟩ = some (.int .u32 x) := by rw [hx]; exact hm _ (by omega)
  have hx1 : W.cell? ⟨gm, (t1).toNat, none⟩ = some (.int .u32 y) := by rw [hy]; exact hm _ (by omega)
  have HX := Aside0.mk (And.intro hx hy)
  have p0 := eq_true h00
  have q0 := eq_true h01
  have p1 := eq_true h10
  have q1 := eq_true h11
  have pa := eq_true (show 2 < P.size by omega)
  have qa := eq_true (show ((2 : Int) < (P.size : Int)) by omega)
  have pb := eq_true (show 3 < P.size by omega)
  have qb := eq_true (show ((3 : Int) < (P.size : Int)) by omega)
  have ra : ∀ h : 2 < P.size, (((P[2]'h).toNat : Nat) : Int) = bt P 2 := bt_at P 2
  have rb : ∀ h : 3 < P.size, (((P[3]'h).toNat : Nat) : Int) = bt P 3 := bt_at P 3
  clear hP hm hK hQ hV hl hne ht0 ht1 hx hy h00 h01 h10 h11
  conv => arg 2; whnf
  refine start_ (n := 14) (S := fun w' => w'.cell? ⟨gm, (t0).toNat, none⟩ = some (.int .u32 x) ∧ w'.cell? ⟨gm, (t1).toNat, none⟩ = some (.int .u32 y)) (ds := []) #[false, false, false, false, false, false, false, false, false, false, false, false, false, false] (by kernel_rfl) rfl rfl ⟨hx0, hx1⟩ (fun hHeld => ?_); refine with_tabW kt34 kb34 (fun HT_ HW_ => ?_)
  have HVd := Aside0.mk HV.out.drew
  clear hx0 hx1
  obtain ⟨wd, hwd⟩ : ∃ W', W' = W.drew := ⟨_, rfl⟩
  rw [← hwd] at HVd hHeld ⊢
  have HWD := Aside0.mk hwd
  clear hwd
  refine pure_ (i := 0) (N := some 178) (v := ?_) (a' := ?_) (lbKMix 14 1) rfl rfl (any_of HT_.out (by kernel_rfl)) (fun _ _ _ h => HQ.out _ _ _ _ h rfl) (Or.inl ⟨by rfl, ?_⟩) ?_ ?_
  rotate_left
  · intro w'
    go_simp
    with_reducible rfl
  rotate_left
  · simp only [Act.put, List.setIfInBounds_toArray, List.set_cons_zero, List.set_cons_succ, i64_w, i32_w]
    rfl
  refine pure_ (i := 1) (N := some 179) (v := ?_) (a' := ?_) (lbKMix 14 3) rfl rfl (any_of HT_.out (by kernel_rfl)) (fun _ _ _ h => HQ.out _ _ _ _ h rfl) (Or.inl ⟨by rfl, ?_⟩) ?_ ?_
  rotate_left
  · intro w'
    go_simp
    with_reducible rfl
  rotate_left
  · simp only [Act.put, List.setIfInBounds_toArray, List.set_cons_zero, List.set_cons_succ, i64_w, i32_w]
    rfl
  refine pure_ (i := 2) (N := some 180) (v := ?_) (a' := ?_) (lbKMix 14 7) rfl rfl (any_of HT_.out (by kernel_rfl)) (fun _ _ _ h => HQ.out _ _ _ _ h rfl) (Or.inl ⟨by rfl, ?_⟩) ?_ ?_
  rotate_left
  · intro w'
    go_simp
    with_reducible rfl
  rotate_left
  · simp only [Act.put, List.setIfInBounds_toArray, List.set_cons_zero, List.set_cons_succ, i64_w, i32_w]
    rfl
  refine pure_ (i := 7) (N := some 185) (v := ?_) (a' := ?_) (lbKMix 14 135) rfl rfl (any_of HT_.out (by kernel_rfl)) (fun _ _ _ h => HQ.out _ _ _ _ h rfl) (Or.inl ⟨by rfl, ?_⟩) ?_ ?_
  rotate_left
  · intro w'
    go_simp
    with_reducible rfl
  rotate_left
  · simp only [Act.put, List.setIfInBounds_toArray, List.set_cons_zero, List.set_cons_succ, i64_w, i32_w]
    rfl
  refine pure_ (i := 8) (N := some 186) (v := ?_) (a' := ?_) (lbKMix 14 391) rfl rfl (any_of HT_.out (by kernel_rfl)) (fun _ _ _ h => HQ.out _ _ _ _ h rfl) (Or.inl ⟨by rfl, ?_⟩) ?_ ?_
  rotate_left
  · intro w'
    go_simp
    with_reducible rfl
  rotate_left
  · simp only [Act.put, List.setIfInBounds_toArray, List.set_cons_zero, List.set_cons_succ, i64_w, i32_w]
    rfl
  refine take_ (i := 3) (N := some 181) (v := ?_) (a' := ?_) (lbKMix 14 399) rfl rfl (take_ofW HT_.out HW_.out (by kernel_rfl)) (fun _ _ _ h => HQ.out _ _ _ _ h rfl) (Or.inl ⟨by rfl, ?_⟩) hHeld ?_ ?_
  rotate_left
  · rintro w' ⟨s0, s1⟩
    go_simp
    with_reducible rfl
  rotate_left
  · simp only [Act.put, List.setIfInBounds_toArray, List.set_cons_zero, List.set_cons_succ, i64_w, i32_w]
    rfl
  refine take_ (i := 9) (N := some 187) (v := ?_) (a' := ?_) (lbKMix 14 911) rfl rfl (take_ofW HT_.out HW_.out (by kernel_rfl)) (fun _ _ _ h => HQ.out _ _ _ _ h rfl) (Or.inl ⟨by rfl, ?_⟩) hHeld ?_ ?_
  rotate_left
  · rintro w' ⟨s0, s1⟩
    go_simp
    with_reducible rfl
  rotate_left
  · simp only [Act.put, List.setIfInBounds_toArray, List.set_cons_zero, List.set_cons_succ, i64_w, i32_w]
    rfl
  refine one_ (i := 4) (N := some 182) (lbKMix 14 927) rfl rfl (one_of HT_.out (by kernel_rfl)) (by decide) (fun K hK => ?_)
  refine goes_ Tryd.func60 (by kernel_rfl) rfl #[.int .u8 (bt P 2)] (by rfl) rfl rfl (by (try simp only [List.map_toArray, List.map_cons, List.map_nil]); first | done | rfl) ?_
  with_reducible refine (hamperref05_place.calls (bt P 2) t0 _ Ht0.out).mono ?_
  rintro e w' ⟨rfl, ⟨n0, rfl⟩⟩
  refine ⟨_, rfl, ?_⟩
  refine hK.out _ _ ⟨hHeld.1, hHeld.2⟩ (fun hHeld => ?_)
  clear hK K
  refine norm_ (a' := ?_) ?_ ?_
  rotate_left
  · show Act.put _ (some 182) _ = _
    simp only [Act.put, List.setIfInBounds_toArray, List.set_cons_zero, List.set_cons_succ, i64_w, i32_w]
    rfl
  refine pure_ (i := 5) (N := some 183) (v := ?_) (a' := ?_) (lbKMix 14 959) rfl rfl (any_of HT_.out (by kernel_rfl)) (fun _ _ _ h => HQ.out _ _ _ _ h rfl) (Or.inl ⟨by rfl, ?_⟩) ?_ ?_
  rotate_left
  · intro w'
    go_simp
    with_reducible rfl
  rotate_left
  · simp only [Act.put, List.setIfInBounds_toArray, List.set_cons_zero, List.set_cons_succ, i64_w, i32_w]
    rfl
  refine take_ (i := 6) (N := some 184) (v := ?_) (a' := ?_) (lbKMix 14 1023) rfl rfl (take_ofW HT_.out HW_.out (by kernel_rfl)) (fun _ _ _ h => HQ.out _ _ _ _ h rfl) (Or.inl ⟨by rfl, ?_⟩) hHeld ?_ ?_
  rotate_left
  · rintro w' ⟨s0, s1⟩
    go_simp
    with_reducible rfl
  rotate_left
  · simp only [Act.put, List.setIfInBounds_toArray, List.set_cons_zero, List.set_cons_succ, i64_w, i32_w]
    rfl
  refine one_ (i := 10) (N := some 188) (lbKMix 14 2047) rfl rfl (one_of HT_.out (by kernel_rfl)) (by decide) (fun K hK => ?_)
  refine goes_ Tryd.func60 (by kernel_rfl) rfl #[.int .u8 (bt P 3)] (by rfl) rfl rfl (by (try simp only [List.map_toArray, List.map_cons, List.map_nil]); first | done | rfl) ?_
  with_reducible refine (hamperref05_place.calls (bt P 3) t1 _ Ht1.out).mono ?_
  rintro e w' ⟨rfl, ⟨n1, rfl⟩⟩
  refine ⟨_, rfl, ?_⟩
  refine hK.out _ _ ⟨hHeld.1, hHeld.2⟩ (fun hHeld => ?_)
  clear hK K
  refine norm_ (a' := ?_) ?_ ?_
  rotate_left
  · show Act.put _ (some 188) _ = _
    simp only [Act.put, List.setIfInBounds_toArray, List.set_cons_zero, List.set_cons_succ, i64_w, i32_w]
    rfl
  refine pure_ (i := 11) (N := some 189) (v := ?_) (a' := ?_) (lbKMix 14 4095) rfl rfl (any_of HT_.out (by kernel_rfl)) (fun _ _ _ h => HQ.out _ _ _ _ h rfl) (Or.inl ⟨by rfl, ?_⟩) ?_ ?_
  rotate_left
  · intro w'
    go_simp
    with_reducible rfl
  rotate_left
  · simp only [Act.put, List.setIfInBounds_toArray, List.set_cons_zero, List.set_cons_succ, i64_w, i32_w]
    rfl
  refine take_ (i := 12) (N := some 190) (v := ?_) (a' := ?_) (lbKMix 14 8191) rfl rfl (take_ofW HT_.out HW_.out (by kernel_rfl)) (fun _ _ _ h => HQ.out _ _ _ _ h rfl) (Or.inl ⟨by rfl, ?_⟩) hHeld ?_ ?_
  rotate_left
  · rintro w' ⟨s0, s1⟩
    go_simp
    with_reducible rfl
  rotate_left
  · simp only [Act.put, List.setIfInBounds_toArray, List.set_cons_zero, List.set_cons_succ, i64_w, i32_w]
    rfl
  refine one_ (i := 13) (N := some 191) (lbKMix 14 16383) rfl rfl (one_of HT_.out (by kernel_rfl)) (by decide) (fun K hK => ?_)
  refine goes_ Tryd.func59 (by kernel_rfl) rfl #[.slice (some ⟨gv, 0, none⟩) 16 cv, .int .i64 1, .int .i64 5, .int .i64 9, .int .i64 13, .int .u32 x, .int .u32 y] (by rfl) rfl rfl (by (try simp only [List.map_toArray, List.map_cons, List.map_nil]); first | done | rfl) ?_
  have hc := mix_calls gv cv V 1 5 9 13 x y ((wd.drewN n0).drewN n1) ((HVd.out.drewN n0).drewN n1) HL.out (by decide) (by decide) (by decide) (by decide) (by decide) (by decide) (by decide) (by decide) (by decide) (by decide)
  refine Calls.mono (show Calls _ _ _ _ _ from hc) ?_
  rintro e w5 ⟨rfl, hv, hk⟩
  refine ⟨_, rfl, ?_⟩
  have hs0 := Bk.keep_cell hk hHeld.1 HNE.out
  have hs1 := Bk.keep_cell hk hHeld.2 HNE.out
  have HV5 := Aside0.mk hv
  have HK5 := Aside0.mk hk
  clear hv hk hc
  refine hK.out _ _ ⟨hs0, hs1⟩ (fun hHeld => ?_)
  clear hK K
  refine norm_ (a' := ?_) ?_ ?_
  rotate_left
  · show Act.put _ (some 191) _ = _
    simp only [Act.put, List.setIfInBounds_toArray, List.set_cons_zero, List.set_cons_succ, i64_w, i32_w]
    rfl
  refine done_ (done_of HT_.out (by kernel_rfl)) ?_
  go_wp2_with fail
  refine HK.out _ _ _ _ _ _ _ _ _ _ _ _ _ _ _ ?_ ?_
  · rw [← HX.out.1, ← HX.out.2]
    exact HV5.out
  · have hk := HK5.out
    rw [HWD.out] at hk
    exact ⟨hk.size, hk.block, hk.os, hk.tape, hk.output⟩
set_option maxHeartbeats 8000000 in
set_option maxRecDepth 1000000 in
theorem m_mix2 {u0 u1 u2 u3 u4 u5 u6 u7 u8 u9 u10 u11 u12 u14 u16 u17 u19 u20 u21 u22 u23 u24 u25 u26 u27 u28 u29 u30 u31 u32 u33 u34 u35 u36 u37 u38 u39 u40 u41 u42 u43 u44 u45 u46 u47 u48 u49 u50 u51 u52 u53 u54 u55 u56 u57 u58 u59 u60 u61 u62 u63 u64 u65 u66 u67 u68 u69 u70 u71 u72 u73 u74 u75 u76 u77 u78 u79 u80 u81 u82 u83 u84 u85 u86 u87 u88 u89 u90 u91 u92 u93 u94 u95 u96 u97 u98 u99 u100 u101 u102 u103 u104 u105 u106 u107 u108 u109 u110 u111 u112 u113 u114 u115 u116 u117 u118 u119 u120 u121 u122 u123 u124 u125 u126 u127 u128 u129 u130 u131 u132 u133 u134 u135 u136 u137 u138 u139 u140 u141 u142 u143 u144 u145 u146 u147 u148 u149 u150 u151 u152 u153 u154 u155 u156 u157 u158 u159 u160 u161 u162 u163 u164 u165 u166 u167 u168 u169 u170 u171 u172 u173 u174 u175 u176 u177 u178 u179 u180 u181 u182 u183 u184 u185 u186 u187 u188 u189 u190 u191 u192 u193 u194 u195 u196 u197 u198 u199 u200 u201 u202 u203 u204 u205 u206 u207 u208 u209 u210 u211 u212 u213 u214 u215 u216 u217 u218 u219 u220 u221 u222 u223 u224 u225 u226 u227 u228 u229 u230 u231 u232 u233 u234 u235 u236 u237 u238 u239 u240 u241 u242 u243 u244 u245 u246 u247 u248 u249 u250 u251 u252 u253 u254 u255 u256 u257 u258 u259 u260 u261 u262 u263 u264 u265 u266 u267 u268 u269 u270 u271 u272 u273 u274 u275 u276 u277 u278 u279 u280 u281 u282 u283 u284 u285 u286 u287 u288 u289 u290 u291 u292 u293 u294 u295 u296 u297 u298 u299 u300 u301 u302 u303 u304 u305 u306 u307 u308 u309 u310 u311 u312 u313 u314 u315 u316 u317 u318 u319 u320 u321 u322 u323 u324 u325 u326 u327 u328 u329 u330 u331 u332 : Value} (gv cv gm cm : Nat) (P : ByteArray) (V Ms : List Int) (t0 t1 : Int) (W : World) (hP : P.size = 16) (ht0 : hamperref05_place.f (bt P 4) = some t0) (ht1 : hamperref05_place.f (bt P 5) = some t1) (h00 : 0 ≤ t0) (h01 : t0 < 16) (h10 : 0 ≤ t1) (h11 : t1 < 16)
    (hm : ∀ j, j < 16 → W.cell? ⟨gm, j, none⟩ = some (.int .u32 (Ms.getD j 0))) (hne : gm ≠ gv) (hl : V.length = 16) (hV : VAt W gv V) {K : Act → World → Prop} {Q : Exit → Act → World → Prop} (hQ : ∀ c a a' w, Q (Exit.panic c) a w → a.defers = a'.defers → Q (Exit.panic c) a' w)
    (hK : ∀ (x192 x193 x194 x195 x196 x197 x198 x199 x200 x201 x202 x203 x204 x205 : Value) (w' : World), VAt w' gv (mixL V 2 6 10 14 (Ms.getD t0.toNat 0) (Ms.getD t1.toNat 0)) → Bk.KeepBut W w' gv none → K ⟨#[u0, u1, u2, u3, u4, u5, u6, u7, u8, u9, u10, u11, u12, .slice (some ⟨gm, 0, none⟩) 16 cm, u14, .slice (some ⟨gv, 0, none⟩) 16 cv, u16, u17, .string P, u19, u20, u21, u22, u23, u24, u25, u26, u27, u28, u29, u30, u31, u32, u33, u34, u35, u36, u37, u38, u39, u40, u41, u42, u43, u44, u45, u46, u47, u48, u49, u50, u51, u52, u53, u54, u55, u56, u57, u58, u59, u60, u61, u62, u63, u64, u65, u66, u67, u68, u69, u70, u71, u72, u73, u74, u75, u76, u77, u78, u79, u80, u81, u82, u83, u84, u85, u86, u87, u88, u89, u90, u91, u92, u93, u94, u95, u96, u97, u98, u99, u100, u101, u102, u103, u104, u105, u106, u107, u108, u109, u110, u111, u112, u113, u114, u115, u116, u117, u118, u119, u120, u121, u122, u123, u124, u125, u126, u127, u128, u129, u130, u131, u132, u133, u134, u135, u136, u137, u138, u139, u140, u141, u142, u143, u144, u145, u146, u147, u148, u149, u150, u151, u152, u153, u154, u155, u156, u157, u158, u159, u160, u161, u162, u163, u164, u165, u166, u167, u168, u169, u170, u171, u172, u173, u174, u175, u176, u177, u178, u179, u180, u181, u182, u183, u184, u185, u186, u187, u188, u189, u190, u191, x192, x193, x194, x195, x196, x197, x198, x199, x200, x201, x202, x203, x204, x205, u206, u207, u208, u209, u210, u211, u212, u213, u214, u215, u216, u217, u218, u219, u220, u221, u222, u223, u224, u225, u226, u227, u228, u229, u230, u231, u232, u233, u234, u235, u236, u237, u238, u239, u240, u241, u242, u243, u244, u245, u246, u247, u248, u249, u250, u251, u252, u253, u254, u255, u256, u257, u258, u259, u260, u261, u262, u263, u264, u265, u266, u267, u268, u269, u270, u271, u272, u273, u274, u275, u276, u277, u278, u279, u280, u281, u282, u283, u284, u285, u286, u287, u288, u289, u290, u291, u292, u293, u294, u295, u296, u297, u298, u299, u300, u301, u302, u303, u304, u305, u306, u307, u308, u309, u310, u311, u312, u313, u314, u315, u316, u317, u318, u319, u320, u321, u322, u323, u324, u325, u326, u327, u328, u329, u330, u331, u332], []⟩ w') :
    Code.wp Tryd.prog (kReg 35) (Exit.then K Q) ⟨#[u0, u1, u2, u3, u4, u5, u6, u7, u8, u9, u10, u11, u12, .slice (some ⟨gm, 0, none⟩) 16 cm, u14, .slice (some ⟨gv, 0, none⟩) 16 cv, u16, u17, .string P, u19, u20, u21, u22, u23, u24, u25, u26, u27, u28, u29, u30, u31, u32, u33, u34, u35, u36, u37, u38, u39, u40, u41, u42, u43, u44, u45, u46, u47, u48, u49, u50, u51, u52, u53, u54, u55, u56, u57, u58, u59, u60, u61, u62, u63, u64, u65, u66, u67, u68, u69, u70, u71, u72, u73, u74, u75, u76, u77, u78, u79, u80, u81, u82, u83, u84, u85, u86, u87, u88, u89, u90, u91, u92, u93, u94, u95, u96, u97, u98, u99, u100, u101, u102, u103, u104, u105, u106, u107, u108, u109, u110, u111, u112, u113, u114, u115, u116, u117, u118, u119, u120, u121, u122, u123, u124, u125, u126, u127, u128, u129, u130, u131, u132, u133, u134, u135, u136, u137, u138, u139, u140, u141, u142, u143, u144, u145, u146, u147, u148, u149, u150, u151, u152, u153, u154, u155, u156, u157, u158, u159, u160, u161, u162, u163, u164, u165, u166, u167, u168, u169, u170, u171, u172, u173, u174, u175, u176, u177, u178, u179, u180, u181, u182, u183, u184, u185, u186, u187, u188, u189, u190, u191, u192, u193, u194, u195, u196, u197, u198, u199, u200, u201, u202, u203, u204, u205, u206, u207, u208, u209, u210, u211, u212, u213, u214, u215, u216, u217, u218, u219, u220, u221, u222, u223, u224, u225, u226, u227, u228, u229, u230, u231, u232, u233, u234, u235, u236, u237, u238, u239, u240, u241, u242, u243, u244, u245, u246, u247, u248, u249, u250, u251, u252, u253, u254, u255, u256, u257, u258, u259, u260, u261, u262, u263, u264, u265, u266, u267, u268, u269, u270, u271, u272, u273, u274, u275, u276, u277, u278, u279, u280, u281, u282, u283, u284, u285, u286, u287, u288, u289, u290, u291, u292, u293, u294, u295, u296, u297, u298, u299, u300, u301, u302, u303, u304, u305, u306, u307, u308, u309, u310, u311, u312, u313, u314, u315, u316, u317, u318, u319, u320, u321, u322, u323, u324, u325, u326, u327, u328, u329, u330, u331, u332], []⟩ W := by
  have HK := Aside0.mk hK
  have HQ := Aside0.mk hQ
  have HV := Aside0.mk hV
  have HL := Aside0.mk hl
  have HNE := Aside0.mk hne
  have Ht0 := Aside0.mk ht0
  have Ht1 := Aside0.mk ht1
  obtain ⟨x, hx⟩ : ∃ x, x = Ms.getD t0.toNat 0 := ⟨_, rfl⟩
  obtain ⟨y, hy⟩ : ∃ y, y = Ms.getD t1.toNat 0 := ⟨_, rfl⟩
  have hx0 : W.cell? ⟨gm, (t0).toNat, none⟩ = some (.int .u32 x) := by rw [hx]; exact hm _ (by omega)
  have hx1 : W.cell? ⟨gm, (t1).toNat, none⟩ = some (.int .u32 y) := by rw [hy]; exact hm _ (by omega)
  have HX := Aside0.mk (And.intro hx hy)
  have p0 := eq_true h00
  have q0 := eq_true h01
  have p1 := eq_true h10
  have q1 := eq_true h11
  have pa := eq_true (show 4 < P.size by omega)
  have qa := eq_true (show ((4 : Int) < (P.size : Int)) by omega)
  have pb := eq_true (show 5 < P.size by omega)
  have qb := eq_true (show ((5 : Int) < (P.size : Int)) by omega)
  have ra : ∀ h : 4 < P.size, (((P[4]'h).toNat : Nat) : Int) = bt P 4 := bt_at P 4
  have rb : ∀ h : 5 < P.size, (((P[5]'h).toNat : Nat) : Int) = bt P 5 := bt_at P 5
  clear hP hm hK hQ hV hl hne ht0 ht1 hx hy h00 h01 h10 h11
  conv => arg 2; whnf
  refine start_ (n := 14) (S := fun w' => w'.cell? ⟨gm, (t0).toNat, none⟩ = some (.int .u32 x) ∧ w'.cell? ⟨gm, (t1).toNat, none⟩ = some (.int .u32 y)) (ds := []) #[false, false, false, false, false, false, false, false, false, false, false, false, false, false] (by kernel_rfl) rfl rfl ⟨hx0, hx1⟩ (fun hHeld => ?_); refine with_tabW kt35 kb35 (fun HT_ HW_ => ?_)
  have HVd := Aside0.mk HV.out.drew
  clear hx0 hx1
  obtain ⟨wd, hwd⟩ : ∃ W', W' = W.drew := ⟨_, rfl⟩
  rw [← hwd] at HVd hHeld ⊢
  have HWD := Aside0.mk hwd
  clear hwd
  refine pure_ (i := 0) (N := some 192) (v := ?_) (a' := ?_) (lbKMix 14 1) rfl rfl (any_of HT_.out (by kernel_rfl)) (fun _ _ _ h => HQ.out _ _ _ _ h rfl) (Or.inl ⟨by rfl, ?_⟩) ?_ ?_
  rotate_left
  · intro w'
    go_simp
    with_reducible rfl
  rotate_left
  · simp only [Act.put, List.setIfInBounds_toArray, List.set_cons_zero, List.set_cons_succ, i64_w, i32_w]
    rfl
  refine pure_ (i := 1) (N := some 193) (v := ?_) (a' := ?_) (lbKMix 14 3) rfl rfl (any_of HT_.out (by kernel_rfl)) (fun _ _ _ h => HQ.out _ _ _ _ h rfl) (Or.inl ⟨by rfl, ?_⟩) ?_ ?_
  rotate_left
  · intro w'
    go_simp
    with_reducible rfl
  rotate_left
  · simp only [Act.put, List.setIfInBounds_toArray, List.set_cons_zero, List.set_cons_succ, i64_w, i32_w]
    rfl
  refine pure_ (i := 2) (N := some 194) (v := ?_) (a' := ?_) (lbKMix 14 7) rfl rfl (any_of HT_.out (by kernel_rfl)) (fun _ _ _ h => HQ.out _ _ _ _ h rfl) (Or.inl ⟨by rfl, ?_⟩) ?_ ?_
  rotate_left
  · intro w'
    go_simp
    with_reducible rfl
  rotate_left
  · simp only [Act.put, List.setIfInBounds_toArray, List.set_cons_zero, List.set_cons_succ, i64_w, i32_w]
    rfl
  refine pure_ (i := 7) (N := some 199) (v := ?_) (a' := ?_) (lbKMix 14 135) rfl rfl (any_of HT_.out (by kernel_rfl)) (fun _ _ _ h => HQ.out _ _ _ _ h rfl) (Or.inl ⟨by rfl, ?_⟩) ?_ ?_
  rotate_left
  · intro w'
    go_simp
    with_reducible rfl
  rotate_left
  · simp only [Act.put, List.setIfInBounds_toArray, List.set_cons_zero, List.set_cons_succ, i64_w, i32_w]
    rfl
  refine pure_ (i := 8) (N := some 200) (v := ?_) (a' := ?_) (lbKMix 14 391) rfl rfl (any_of HT_.out (by kernel_rfl)) (fun _ _ _ h => HQ.out _ _ _ _ h rfl) (Or.inl ⟨by rfl, ?_⟩) ?_ ?_
  rotate_left
  · intro w'
    go_simp
    with_reducible rfl
  rotate_left
  · simp only [Act.put, List.setIfInBounds_toArray, List.set_cons_zero, List.set_cons_succ, i64_w, i32_w]
    rfl
  refine take_ (i := 3) (N := some 195) (v := ?_) (a' := ?_) (lbKMix 14 399) rfl rfl (take_ofW HT_.out HW_.out (by kernel_rfl)) (fun _ _ _ h => HQ.out _ _ _ _ h rfl) (Or.inl ⟨by rfl, ?_⟩) hHeld ?_ ?_
  rotate_left
  · rintro w' ⟨s0, s1⟩
    go_simp
    with_reducible rfl
  rotate_left
  · simp only [Act.put, List.setIfInBounds_toArray, List.set_cons_zero, List.set_cons_succ, i64_w, i32_w]
    rfl
  refine take_ (i := 9) (N := some 201) (v := ?_) (a' := ?_) (lbKMix 14 911) rfl rfl (take_ofW HT_.out HW_.out (by kernel_rfl)) (fun _ _ _ h => HQ.out _ _ _ _ h rfl) (Or.inl ⟨by rfl, ?_⟩) hHeld ?_ ?_
  rotate_left
  · rintro w' ⟨s0, s1⟩
    go_simp
    with_reducible rfl
  rotate_left
  · simp only [Act.put, List.setIfInBounds_toArray, List.set_cons_zero, List.set_cons_succ, i64_w, i32_w]
    rfl
  refine one_ (i := 4) (N := some 196) (lbKMix 14 927) rfl rfl (one_of HT_.out (by kernel_rfl)) (by decide) (fun K hK => ?_)
  refine goes_ Tryd.func60 (by kernel_rfl) rfl #[.int .u8 (bt P 4)] (by rfl) rfl rfl (by (try simp only [List.map_toArray, List.map_cons, List.map_nil]); first | done | rfl) ?_
  with_reducible refine (hamperref05_place.calls (bt P 4) t0 _ Ht0.out).mono ?_
  rintro e w' ⟨rfl, ⟨n0, rfl⟩⟩
  refine ⟨_, rfl, ?_⟩
  refine hK.out _ _ ⟨hHeld.1, hHeld.2⟩ (fun hHeld => ?_)
  clear hK K
  refine norm_ (a' := ?_) ?_ ?_
  rotate_left
  · show Act.put _ (some 196) _ = _
    simp only [Act.put, List.setIfInBounds_toArray, List.set_cons_zero, List.set_cons_succ, i64_w, i32_w]
    rfl
  refine pure_ (i := 5) (N := some 197) (v := ?_) (a' := ?_) (lbKMix 14 959) rfl rfl (any_of HT_.out (by kernel_rfl)) (fun _ _ _ h => HQ.out _ _ _ _ h rfl) (Or.inl ⟨by rfl, ?_⟩) ?_ ?_
  rotate_left
  · intro w'
    go_simp
    with_reducible rfl
  rotate_left
  · simp only [Act.put, List.setIfInBounds_toArray, List.set_cons_zero, List.set_cons_succ, i64_w, i32_w]
    rfl
  refine take_ (i := 6) (N := some 198) (v := ?_) (a' := ?_) (lbKMix 14 1023) rfl rfl (take_ofW HT_.out HW_.out (by kernel_rfl)) (fun _ _ _ h => HQ.out _ _ _ _ h rfl) (Or.inl ⟨by rfl, ?_⟩) hHeld ?_ ?_
  rotate_left
  · rintro w' ⟨s0, s1⟩
    go_simp
    with_reducible rfl
  rotate_left
  · simp only [Act.put, List.setIfInBounds_toArray, List.set_cons_zero, List.set_cons_succ, i64_w, i32_w]
    rfl
  refine one_ (i := 10) (N := some 202) (lbKMix 14 2047) rfl rfl (one_of HT_.out (by kernel_rfl)) (by decide) (fun K hK => ?_)
  refine goes_ Tryd.func60 (by kernel_rfl) rfl #[.int .u8 (bt P 5)] (by rfl) rfl rfl (by (try simp only [List.map_toArray, List.map_cons, List.map_nil]); first | done | rfl) ?_
  with_reducible refine (hamperref05_place.calls (bt P 5) t1 _ Ht1.out).mono ?_
  rintro e w' ⟨rfl, ⟨n1, rfl⟩⟩
  refine ⟨_, rfl, ?_⟩
  refine hK.out _ _ ⟨hHeld.1, hHeld.2⟩ (fun hHeld => ?_)
  clear hK K
  refine norm_ (a' := ?_) ?_ ?_
  rotate_left
  · show Act.put _ (some 202) _ = _
    simp only [Act.put, List.setIfInBounds_toArray, List.set_cons_zero, List.set_cons_succ, i64_w, i32_w]
    rfl
  refine pure_ (i := 11) (N := some 203) (v := ?_) (a' := ?_) (lbKMix 14 4095) rfl rfl (any_of HT_.out (by kernel_rfl)) (fun _ _ _ h => HQ.out _ _ _ _ h rfl) (Or.inl ⟨by rfl, ?_⟩) ?_ ?_
  rotate_left
  · intro w'
    go_simp
    with_reducible rfl
  rotate_left
  · simp only [Act.put, List.setIfInBounds_toArray, List.set_cons_zero, List.set_cons_succ, i64_w, i32_w]
    rfl
  refine take_ (i := 12) (N := some 204) (v := ?_) (a' := ?_) (lbKMix 14 8191) rfl rfl (take_ofW HT_.out HW_.out (by kernel_rfl)) (fun _ _ _ h => HQ.out _ _ _ _ h rfl) (Or.inl ⟨by rfl, ?_⟩) hHeld ?_ ?_
  rotate_left
  · rintro w' ⟨s0, s1⟩
    go_simp
    with_reducible rfl
  rotate_left
  · simp only [Act.put, List.setIfInBounds_toArray, List.set_cons_zero, List.set_cons_succ, i64_w, i32_w]
    rfl
  refine one_ (i := 13) (N := some 205) (lbKMix 14 16383) rfl rfl (one_of HT_.out (by kernel_rfl)) (by decide) (fun K hK => ?_)
  refine goes_ Tryd.func59 (by kernel_rfl) rfl #[.slice (some ⟨gv, 0, none⟩) 16 cv, .int .i64 2, .int .i64 6, .int .i64 10, .int .i64 14, .int .u32 x, .int .u32 y] (by rfl) rfl rfl (by (try simp only [List.map_toArray, List.map_cons, List.map_nil]); first | done | rfl) ?_
  have hc := mix_calls gv cv V 2 6 10 14 x y ((wd.drewN n0).drewN n1) ((HVd.out.drewN n0).drewN n1) HL.out (by decide) (by decide) (by decide) (by decide) (by decide) (by decide) (by decide) (by decide) (by decide) (by decide)
  refine Calls.mono (show Calls _ _ _ _ _ from hc) ?_
  rintro e w5 ⟨rfl, hv, hk⟩
  refine ⟨_, rfl, ?_⟩
  have hs0 := Bk.keep_cell hk hHeld.1 HNE.out
  have hs1 := Bk.keep_cell hk hHeld.2 HNE.out
  have HV5 := Aside0.mk hv
  have HK5 := Aside0.mk hk
  clear hv hk hc
  refine hK.out _ _ ⟨hs0, hs1⟩ (fun hHeld => ?_)
  clear hK K
  refine norm_ (a' := ?_) ?_ ?_
  rotate_left
  · show Act.put _ (some 205) _ = _
    simp only [Act.put, List.setIfInBounds_toArray, List.set_cons_zero, List.set_cons_succ, i64_w, i32_w]
    rfl
  refine done_ (done_of HT_.out (by kernel_rfl)) ?_
  go_wp2_with fail
  refine HK.out _ _ _ _ _ _ _ _ _ _ _ _ _ _ _ ?_ ?_
  · rw [← HX.out.1, ← HX.out.2]
    exact HV5.out
  · have hk := HK5.out
    rw [HWD.out] at hk
    exact ⟨hk.size, hk.block, hk.os, hk.tape, hk.output⟩
set_option maxHeartbeats 8000000 in
set_option maxRecDepth 1000000 in
theorem m_mix3 {u0 u1 u2 u3 u4 u5 u6 u7 u8 u9 u10 u11 u12 u14 u16 u17 u19 u20 u21 u22 u23 u24 u25 u26 u27 u28 u29 u30 u31 u32 u33 u34 u35 u36 u37 u38 u39 u40 u41 u42 u43 u44 u45 u46 u47 u48 u49 u50 u51 u52 u53 u54 u55 u56 u57 u58 u59 u60 u61 u62 u63 u64 u65 u66 u67 u68 u69 u70 u71 u72 u73 u74 u75 u76 u77 u78 u79 u80 u81 u82 u83 u84 u85 u86 u87 u88 u89 u90 u91 u92 u93 u94 u95 u96 u97 u98 u99 u100 u101 u102 u103 u104 u105 u106 u107 u108 u109 u110 u111 u112 u113 u114 u115 u116 u117 u118 u119 u120 u121 u122 u123 u124 u125 u126 u127 u128 u129 u130 u131 u132 u133 u134 u135 u136 u137 u138 u139 u140 u141 u142 u143 u144 u145 u146 u147 u148 u149 u150 u151 u152 u153 u154 u155 u156 u157 u158 u159 u160 u161 u162 u163 u164 u165 u166 u167 u168 u169 u170 u171 u172 u173 u174 u175 u176 u177 u178 u179 u180 u181 u182 u183 u184 u185 u186 u187 u188 u189 u190 u191 u192 u193 u194 u195 u196 u197 u198 u199 u200 u201 u202 u203 u204 u205 u206 u207 u208 u209 u210 u211 u212 u213 u214 u215 u216 u217 u218 u219 u220 u221 u222 u223 u224 u225 u226 u227 u228 u229 u230 u231 u232 u233 u234 u235 u236 u237 u238 u239 u240 u241 u242 u243 u244 u245 u246 u247 u248 u249 u250 u251 u252 u253 u254 u255 u256 u257 u258 u259 u260 u261 u262 u263 u264 u265 u266 u267 u268 u269 u270 u271 u272 u273 u274 u275 u276 u277 u278 u279 u280 u281 u282 u283 u284 u285 u286 u287 u288 u289 u290 u291 u292 u293 u294 u295 u296 u297 u298 u299 u300 u301 u302 u303 u304 u305 u306 u307 u308 u309 u310 u311 u312 u313 u314 u315 u316 u317 u318 u319 u320 u321 u322 u323 u324 u325 u326 u327 u328 u329 u330 u331 u332 : Value} (gv cv gm cm : Nat) (P : ByteArray) (V Ms : List Int) (t0 t1 : Int) (W : World) (hP : P.size = 16) (ht0 : hamperref05_place.f (bt P 6) = some t0) (ht1 : hamperref05_place.f (bt P 7) = some t1) (h00 : 0 ≤ t0) (h01 : t0 < 16) (h10 : 0 ≤ t1) (h11 : t1 < 16)
    (hm : ∀ j, j < 16 → W.cell? ⟨gm, j, none⟩ = some (.int .u32 (Ms.getD j 0))) (hne : gm ≠ gv) (hl : V.length = 16) (hV : VAt W gv V) {K : Act → World → Prop} {Q : Exit → Act → World → Prop} (hQ : ∀ c a a' w, Q (Exit.panic c) a w → a.defers = a'.defers → Q (Exit.panic c) a' w)
    (hK : ∀ (x206 x207 x208 x209 x210 x211 x212 x213 x214 x215 x216 x217 x218 x219 : Value) (w' : World), VAt w' gv (mixL V 3 7 11 15 (Ms.getD t0.toNat 0) (Ms.getD t1.toNat 0)) → Bk.KeepBut W w' gv none → K ⟨#[u0, u1, u2, u3, u4, u5, u6, u7, u8, u9, u10, u11, u12, .slice (some ⟨gm, 0, none⟩) 16 cm, u14, .slice (some ⟨gv, 0, none⟩) 16 cv, u16, u17, .string P, u19, u20, u21, u22, u23, u24, u25, u26, u27, u28, u29, u30, u31, u32, u33, u34, u35, u36, u37, u38, u39, u40, u41, u42, u43, u44, u45, u46, u47, u48, u49, u50, u51, u52, u53, u54, u55, u56, u57, u58, u59, u60, u61, u62, u63, u64, u65, u66, u67, u68, u69, u70, u71, u72, u73, u74, u75, u76, u77, u78, u79, u80, u81, u82, u83, u84, u85, u86, u87, u88, u89, u90, u91, u92, u93, u94, u95, u96, u97, u98, u99, u100, u101, u102, u103, u104, u105, u106, u107, u108, u109, u110, u111, u112, u113, u114, u115, u116, u117, u118, u119, u120, u121, u122, u123, u124, u125, u126, u127, u128, u129, u130, u131, u132, u133, u134, u135, u136, u137, u138, u139, u140, u141, u142, u143, u144, u145, u146, u147, u148, u149, u150, u151, u152, u153, u154, u155, u156, u157, u158, u159, u160, u161, u162, u163, u164, u165, u166, u167, u168, u169, u170, u171, u172, u173, u174, u175, u176, u177, u178, u179, u180, u181, u182, u183, u184, u185, u186, u187, u188, u189, u190, u191, u192, u193, u194, u195, u196, u197, u198, u199, u200, u201, u202, u203, u204, u205, x206, x207, x208, x209, x210, x211, x212, x213, x214, x215, x216, x217, x218, x219, u220, u221, u222, u223, u224, u225, u226, u227, u228, u229, u230, u231, u232, u233, u234, u235, u236, u237, u238, u239, u240, u241, u242, u243, u244, u245, u246, u247, u248, u249, u250, u251, u252, u253, u254, u255, u256, u257, u258, u259, u260, u261, u262, u263, u264, u265, u266, u267, u268, u269, u270, u271, u272, u273, u274, u275, u276, u277, u278, u279, u280, u281, u282, u283, u284, u285, u286, u287, u288, u289, u290, u291, u292, u293, u294, u295, u296, u297, u298, u299, u300, u301, u302, u303, u304, u305, u306, u307, u308, u309, u310, u311, u312, u313, u314, u315, u316, u317, u318, u319, u320, u321, u322, u323, u324, u325, u326, u327, u328, u329, u330, u331, u332], []⟩ w') :
    Code.wp Tryd.prog (kReg 36) (Exit.then K Q) ⟨#[u0, u1, u2, u3, u4, u5, u6, u7, u8, u9, u10, u11, u12, .slice (some ⟨gm, 0, none⟩) 16 cm, u14, .slice (some ⟨gv, 0, none⟩) 16 cv, u16, u17, .string P, u19, u20, u21, u22, u23, u24, u25, u26, u27, u28, u29, u30, u31, u32, u33, u34, u35, u36, u37, u38, u39, u40, u41, u42, u43, u44, u45, u46, u47, u48, u49, u50, u51, u52, u53, u54, u55, u56, u57, u58, u59, u60, u61, u62, u63, u64, u65, u66, u67, u68, u69, u70, u71, u72, u73, u74, u75, u76, u77, u78, u79, u80, u81, u82, u83, u84, u85, u86, u87, u88, u89, u90, u91, u92, u93, u94, u95, u96, u97, u98, u99, u100, u101, u102, u103, u104, u105, u106, u107, u108, u109, u110, u111, u112, u113, u114, u115, u116, u117, u118, u119, u120, u121, u122, u123, u124, u125, u126, u127, u128, u129, u130, u131, u132, u133, u134, u135, u136, u137, u138, u139, u140, u141, u142, u143, u144, u145, u146, u147, u148, u149, u150, u151, u152, u153, u154, u155, u156, u157, u158, u159, u160, u161, u162, u163, u164, u165, u166, u167, u168, u169, u170, u171, u172, u173, u174, u175, u176, u177, u178, u179, u180, u181, u182, u183, u184, u185, u186, u187, u188, u189, u190, u191, u192, u193, u194, u195, u196, u197, u198, u199, u200, u201, u202, u203, u204, u205, u206, u207, u208, u209, u210, u211, u212, u213, u214, u215, u216, u217, u218, u219, u220, u221, u222, u223, u224, u225, u226, u227, u228, u229, u230, u231, u232, u233, u234, u235, u236, u237, u238, u239, u240, u241, u242, u243, u244, u245, u246, u247, u248, u249, u250, u251, u252, u253, u254, u255, u256, u257, u258, u259, u260, u261, u262, u263, u264, u265, u266, u267, u268, u269, u270, u271, u272, u273, u274, u275, u276, u277, u278, u279, u280, u281, u282, u283, u284, u285, u286, u287, u288, u289, u290, u291, u292, u293, u294, u295, u296, u297, u298, u299, u300, u301, u302, u303, u304, u305, u306, u307, u308, u309, u310, u311, u312, u313, u314, u315, u316, u317, u318, u319, u320, u321, u322, u323, u324, u325, u326, u327, u328, u329, u330, u331, u332], []⟩ W := by
  have HK := Aside0.mk hK
  have HQ := Aside0.mk hQ
  have HV := Aside0.mk hV
  have HL := Aside0.mk hl
  have HNE := Aside0.mk hne
  have Ht0 := Aside0.mk ht0
  have Ht1 := Aside0.mk ht1
  obtain ⟨x, hx⟩ : ∃ x, x = Ms.getD t0.toNat 0 := ⟨_, rfl⟩
  obtain ⟨y, hy⟩ : ∃ y, y = Ms.getD t1.toNat 0 := ⟨_, rfl⟩
  have hx0 : W.cell? ⟨gm, (t0).toNat, none⟩ = some (.int .u32 x) := by rw [hx]; exact hm _ (by omega)
  have hx1 : W.cell? ⟨gm, (t1).toNat, none⟩ = some (.int .u32 y) := by rw [hy]; exact hm _ (by omega)
  have HX := Aside0.mk (And.intro hx hy)
  have p0 := eq_true h00
  have q0 := eq_true h01
  have p1 := eq_true h10
  have q1 := eq_true h11
  have pa := eq_true (show 6 < P.size by omega)
  have qa := eq_true (show ((6 : Int) < (P.size : Int)) by omega)
  have pb := eq_true (show 7 < P.size by omega)
  have qb := eq_true (show ((7 : Int) < (P.size : Int)) by omega)
  have ra : ∀ h : 6 < P.size, (((P[6]'h).toNat : Nat) : Int) = bt P 6 := bt_at P 6
  have rb : ∀ h : 7 < P.size, (((P[7]'h).toNat : Nat) : Int) = bt P 7 := bt_at P 7
  clear hP hm hK hQ hV hl hne ht0 ht1 hx hy h00 h01 h10 h11
  conv => arg 2; whnf
  refine start_ (n := 14) (S := fun w' => w'.cell? ⟨gm, (t0).toNat, none⟩ = some (.int .u32 x) ∧ w'.cell? ⟨gm, (t1).toNat, none⟩ = some (.int .u32 y)) (ds := []) #[false, false, false, false, false, false, false, false, false, false, false, false, false, false] (by kernel_rfl) rfl rfl ⟨hx0, hx1⟩ (fun hHeld => ?_); refine with_tabW kt36 kb36 (fun HT_ HW_ => ?_)
  have HVd := Aside0.mk HV.out.drew
  clear hx0 hx1
  obtain ⟨wd, hwd⟩ : ∃ W', W' = W.drew := ⟨_, rfl⟩
  rw [← hwd] at HVd hHeld ⊢
  have HWD := Aside0.mk hwd
  clear hwd
  refine pure_ (i := 0) (N := some 206) (v := ?_) (a' := ?_) (lbKMix 14 1) rfl rfl (any_of HT_.out (by kernel_rfl)) (fun _ _ _ h => HQ.out _ _ _ _ h rfl) (Or.inl ⟨by rfl, ?_⟩) ?_ ?_
  rotate_left
  · intro w'
    go_simp
    with_reducible rfl
  rotate_left
  · simp only [Act.put, List.setIfInBounds_toArray, List.set_cons_zero, List.set_cons_succ, i64_w, i32_w]
    rfl
  refine pure_ (i := 1) (N := some 207) (v := ?_) (a' := ?_) (lbKMix 14 3) rfl rfl (any_of HT_.out (by kernel_rfl)) (fun _ _ _ h => HQ.out _ _ _ _ h rfl) (Or.inl ⟨by rfl, ?_⟩) ?_ ?_
  rotate_left
  · intro w'
    go_simp
    with_reducible rfl
  rotate_left
  · simp only [Act.put, List.setIfInBounds_toArray, List.set_cons_zero, List.set_cons_succ, i64_w, i32_w]
    rfl
  refine pure_ (i := 2) (N := some 208) (v := ?_) (a' := ?_) (lbKMix 14 7) rfl rfl (any_of HT_.out (by kernel_rfl)) (fun _ _ _ h => HQ.out _ _ _ _ h rfl) (Or.inl ⟨by rfl, ?_⟩) ?_ ?_
  rotate_left
  · intro w'
    go_simp
    with_reducible rfl
  rotate_left
  · simp only [Act.put, List.setIfInBounds_toArray, List.set_cons_zero, List.set_cons_succ, i64_w, i32_w]
    rfl
  refine pure_ (i := 7) (N := some 213) (v := ?_) (a' := ?_) (lbKMix 14 135) rfl rfl (any_of HT_.out (by kernel_rfl)) (fun _ _ _ h => HQ.out _ _ _ _ h rfl) (Or.inl ⟨by rfl, ?_⟩) ?_ ?_
  rotate_left
  · intro w'
    go_simp
    with_reducible rfl
  rotate_left
  · simp only [Act.put, List.setIfInBounds_toArray, List.set_cons_zero, List.set_cons_succ, i64_w, i32_w]
    rfl
  refine pure_ (i := 8) (N := some 214) (v := ?_) (a' := ?_) (lbKMix 14 391) rfl rfl (any_of HT_.out (by kernel_rfl)) (fun _ _ _ h => HQ.out _ _ _ _ h rfl) (Or.inl ⟨by rfl, ?_⟩) ?_ ?_
  rotate_left
  · intro w'
    go_simp
    with_reducible rfl
  rotate_left
  · simp only [Act.put, List.setIfInBounds_toArray, List.set_cons_zero, List.set_cons_succ, i64_w, i32_w]
    rfl
  refine take_ (i := 3) (N := some 209) (v := ?_) (a' := ?_) (lbKMix 14 399) rfl rfl (take_ofW HT_.out HW_.out (by kernel_rfl)) (fun _ _ _ h => HQ.out _ _ _ _ h rfl) (Or.inl ⟨by rfl, ?_⟩) hHeld ?_ ?_
  rotate_left
  · rintro w' ⟨s0, s1⟩
    go_simp
    with_reducible rfl
  rotate_left
  · simp only [Act.put, List.setIfInBounds_toArray, List.set_cons_zero, List.set_cons_succ, i64_w, i32_w]
    rfl
  refine take_ (i := 9) (N := some 215) (v := ?_) (a' := ?_) (lbKMix 14 911) rfl rfl (take_ofW HT_.out HW_.out (by kernel_rfl)) (fun _ _ _ h => HQ.out _ _ _ _ h rfl) (Or.inl ⟨by rfl, ?_⟩) hHeld ?_ ?_
  rotate_left
  · rintro w' ⟨s0, s1⟩
    go_simp
    with_reducible rfl
  rotate_left
  · simp only [Act.put, List.setIfInBounds_toArray, List.set_cons_zero, List.set_cons_succ, i64_w, i32_w]
    rfl
  refine one_ (i := 4) (N := some 210) (lbKMix 14 927) rfl rfl (one_of HT_.out (by kernel_rfl)) (by decide) (fun K hK => ?_)
  refine goes_ Tryd.func60 (by kernel_rfl) rfl #[.int .u8 (bt P 6)] (by rfl) rfl rfl (by (try simp only [List.map_toArray, List.map_cons, List.map_nil]); first | done | rfl) ?_
  with_reducible refine (hamperref05_place.calls (bt P 6) t0 _ Ht0.out).mono ?_
  rintro e w' ⟨rfl, ⟨n0, rfl⟩⟩
  refine ⟨_, rfl, ?_⟩
  refine hK.out _ _ ⟨hHeld.1, hHeld.2⟩ (fun hHeld => ?_)
  clear hK K
  refine norm_ (a' := ?_) ?_ ?_
  rotate_left
  · show Act.put _ (some 210) _ = _
    simp only [Act.put, List.setIfInBounds_toArray, List.set_cons_zero, List.set_cons_succ, i64_w, i32_w]
    rfl
  refine pure_ (i := 5) (N := some 211) (v := ?_) (a' := ?_) (lbKMix 14 959) rfl rfl (any_of HT_.out (by kernel_rfl)) (fun _ _ _ h => HQ.out _ _ _ _ h rfl) (Or.inl ⟨by rfl, ?_⟩) ?_ ?_
  rotate_left
  · intro w'
    go_simp
    with_reducible rfl
  rotate_left
  · simp only [Act.put, List.setIfInBounds_toArray, List.set_cons_zero, List.set_cons_succ, i64_w, i32_w]
    rfl
  refine take_ (i := 6) (N := some 212) (v := ?_) (a' := ?_) (lbKMix 14 1023) rfl rfl (take_ofW HT_.out HW_.out (by kernel_rfl)) (fun _ _ _ h => HQ.out _ _ _ _ h rfl) (Or.inl ⟨by rfl, ?_⟩) hHeld ?_ ?_
  rotate_left
  · rintro w' ⟨s0, s1⟩
    go_simp
    with_reducible rfl
  rotate_left
  · simp only [Act.put, List.setIfInBounds_toArray, List.set_cons_zero, List.set_cons_succ, i64_w, i32_w]
    rfl
  refine one_ (i := 10) (N := some 216) (lbKMix 14 2047) rfl rfl (one_of HT_.out (by kernel_rfl)) (by decide) (fun K hK => ?_)
  refine goes_ Tryd.func60 (by kernel_rfl) rfl #[.int .u8 (bt P 7)] (by rfl) rfl rfl (by (try simp only [List.map_toArray, List.map_cons, List.map_nil]); first | done | rfl) ?_
  with_reducible refine (hamperref05_place.calls (bt P 7) t1 _ Ht1.out).mono ?_
  rintro e w' ⟨rfl, ⟨n1, rfl⟩⟩
  refine ⟨_, rfl, ?_⟩
  refine hK.out _ _ ⟨hHeld.1, hHeld.2⟩ (fun hHeld => ?_)
  clear hK K
  refine norm_ (a' := ?_) ?_ ?_
  rotate_left
  · show Act.put _ (some 216) _ = _
    simp only [Act.put, List.setIfInBounds_toArray, List.set_cons_zero, List.set_cons_succ, i64_w, i32_w]
    rfl
  refine pure_ (i := 11) (N := some 217) (v := ?_) (a' := ?_) (lbKMix 14 4095) rfl rfl (any_of HT_.out (by kernel_rfl)) (fun _ _ _ h => HQ.out _ _ _ _ h rfl) (Or.inl ⟨by rfl, ?_⟩) ?_ ?_
  rotate_left
  · intro w'
    go_simp
    with_reducible rfl
  rotate_left
  · simp only [Act.put, List.setIfInBounds_toArray, List.set_cons_zero, List.set_cons_succ, i64_w, i32_w]
    rfl
  refine take_ (i := 12) (N := some 218) (v := ?_) (a' := ?_) (lbKMix 14 8191) rfl rfl (take_ofW HT_.out HW_.out (by kernel_rfl)) (fun _ _ _ h => HQ.out _ _ _ _ h rfl) (Or.inl ⟨by rfl, ?_⟩) hHeld ?_ ?_
  rotate_left
  · rintro w' ⟨s0, s1⟩
    go_simp
    with_reducible rfl
  rotate_left
  · simp only [Act.put, List.setIfInBounds_toArray, List.set_cons_zero, List.set_cons_succ, i64_w, i32_w]
    rfl
  refine one_ (i := 13) (N := some 219) (lbKMix 14 16383) rfl rfl (one_of HT_.out (by kernel_rfl)) (by decide) (fun K hK => ?_)
  refine goes_ Tryd.func59 (by kernel_rfl) rfl #[.slice (some ⟨gv, 0, none⟩) 16 cv, .int .i64 3, .int .i64 7, .int .i64 11, .int .i64 15, .int .u32 x, .int .u32 y] (by rfl) rfl rfl (by (try simp only [List.map_toArray, List.map_cons, List.map_nil]); first | done | rfl) ?_
  have hc := mix_calls gv cv V 3 7 11 15 x y ((wd.drewN n0).drewN n1) ((HVd.out.drewN n0).drewN n1) HL.out (by decide) (by decide) (by decide) (by decide) (by decide) (by decide) (by decide) (by decide) (by decide) (by decide)
  refine Calls.mono (show Calls _ _ _ _ _ from hc) ?_
  rintro e w5 ⟨rfl, hv, hk⟩
  refine ⟨_, rfl, ?_⟩
  have hs0 := Bk.keep_cell hk hHeld.1 HNE.out
  have hs1 := Bk.keep_cell hk hHeld.2 HNE.out
  have HV5 := Aside0.mk hv
  have HK5 := Aside0.mk hk
  clear hv hk hc
  refine hK.out _ _ ⟨hs0, hs1⟩ (fun hHeld => ?_)
  clear hK K
  refine norm_ (a' := ?_) ?_ ?_
  rotate_left
  · show Act.put _ (some 219) _ = _
    simp only [Act.put, List.setIfInBounds_toArray, List.set_cons_zero, List.set_cons_succ, i64_w, i32_w]
    rfl
  refine done_ (done_of HT_.out (by kernel_rfl)) ?_
  go_wp2_with fail
  refine HK.out _ _ _ _ _ _ _ _ _ _ _ _ _ _ _ ?_ ?_
  · rw [← HX.out.1, ← HX.out.2]
    exact HV5.out
  · have hk := HK5.out
    rw [HWD.out] at hk
    exact ⟨hk.size, hk.block, hk.os, hk.tape, hk.output⟩
set_option maxHeartbeats 8000000 in
set_option maxRecDepth 1000000 in
theorem m_mix4 {u0 u1 u2 u3 u4 u5 u6 u7 u8 u9 u10 u11 u12 u14 u16 u17 u19 u20 u21 u22 u23 u24 u25 u26 u27 u28 u29 u30 u31 u32 u33 u34 u35 u36 u37 u38 u39 u40 u41 u42 u43 u44 u45 u46 u47 u48 u49 u50 u51 u52 u53 u54 u55 u56 u57 u58 u59 u60 u61 u62 u63 u64 u65 u66 u67 u68 u69 u70 u71 u72 u73 u74 u75 u76 u77 u78 u79 u80 u81 u82 u83 u84 u85 u86 u87 u88 u89 u90 u91 u92 u93 u94 u95 u96 u97 u98 u99 u100 u101 u102 u103 u104 u105 u106 u107 u108 u109 u110 u111 u112 u113 u114 u115 u116 u117 u118 u119 u120 u121 u122 u123 u124 u125 u126 u127 u128 u129 u130 u131 u132 u133 u134 u135 u136 u137 u138 u139 u140 u141 u142 u143 u144 u145 u146 u147 u148 u149 u150 u151 u152 u153 u154 u155 u156 u157 u158 u159 u160 u161 u162 u163 u164 u165 u166 u167 u168 u169 u170 u171 u172 u173 u174 u175 u176 u177 u178 u179 u180 u181 u182 u183 u184 u185 u186 u187 u188 u189 u190 u191 u192 u193 u194 u195 u196 u197 u198 u199 u200 u201 u202 u203 u204 u205 u206 u207 u208 u209 u210 u211 u212 u213 u214 u215 u216 u217 u218 u219 u220 u221 u222 u223 u224 u225 u226 u227 u228 u229 u230 u231 u232 u233 u234 u235 u236 u237 u238 u239 u240 u241 u242 u243 u244 u245 u246 u247 u248 u249 u250 u251 u252 u253 u254 u255 u256 u257 u258 u259 u260 u261 u262 u263 u264 u265 u266 u267 u268 u269 u270 u271 u272 u273 u274 u275 u276 u277 u278 u279 u280 u281 u282 u283 u284 u285 u286 u287 u288 u289 u290 u291 u292 u293 u294 u295 u296 u297 u298 u299 u300 u301 u302 u303 u304 u305 u306 u307 u308 u309 u310 u311 u312 u313 u314 u315 u316 u317 u318 u319 u320 u321 u322 u323 u324 u325 u326 u327 u328 u329 u330 u331 u332 : Value} (gv cv gm cm : Nat) (P : ByteArray) (V Ms : List Int) (t0 t1 : Int) (W : World) (hP : P.size = 16) (ht0 : hamperref05_place.f (bt P 8) = some t0) (ht1 : hamperref05_place.f (bt P 9) = some t1) (h00 : 0 ≤ t0) (h01 : t0 < 16) (h10 : 0 ≤ t1) (h11 : t1 < 16)
    (hm : ∀ j, j < 16 → W.cell? ⟨gm, j, none⟩ = some (.int .u32 (Ms.getD j 0))) (hne : gm ≠ gv) (hl : V.length = 16) (hV : VAt W gv V) {K : Act → World → Prop} {Q : Exit → Act → World → Prop} (hQ : ∀ c a a' w, Q (Exit.panic c) a w → a.defers = a'.defers → Q (Exit.panic c) a' w)
    (hK : ∀ (x220 x221 x222 x223 x224 x225 x226 x227 x228 x229 x230 x231 x232 x233 : Value) (w' : World), VAt w' gv (mixL V 0 5 10 15 (Ms.getD t0.toNat 0) (Ms.getD t1.toNat 0)) → Bk.KeepBut W w' gv none → K ⟨#[u0, u1, u2, u3, u4, u5, u6, u7, u8, u9, u10, u11, u12, .slice (some ⟨gm, 0, none⟩) 16 cm, u14, .slice (some ⟨gv, 0, none⟩) 16 cv, u16, u17, .string P, u19, u20, u21, u22, u23, u24, u25, u26, u27, u28, u29, u30, u31, u32, u33, u34, u35, u36, u37, u38, u39, u40, u41, u42, u43, u44, u45, u46, u47, u48, u49, u50, u51, u52, u53, u54, u55, u56, u57, u58, u59, u60, u61, u62, u63, u64, u65, u66, u67, u68, u69, u70, u71, u72, u73, u74, u75, u76, u77, u78, u79, u80, u81, u82, u83, u84, u85, u86, u87, u88, u89, u90, u91, u92, u93, u94, u95, u96, u97, u98, u99, u100, u101, u102, u103, u104, u105, u106, u107, u108, u109, u110, u111, u112, u113, u114, u115, u116, u117, u118, u119, u120, u121, u122, u123, u124, u125, u126, u127, u128, u129, u130, u131, u132, u133, u134, u135, u136, u137, u138, u139, u140, u141, u142, u143, u144, u145, u146, u147, u148, u149, u150, u151, u152, u153, u154, u155, u156, u157, u158, u159, u160, u161, u162, u163, u164, u165, u166, u167, u168, u169, u170, u171, u172, u173, u174, u175, u176, u177, u178, u179, u180, u181, u182, u183, u184, u185, u186, u187, u188, u189, u190, u191, u192, u193, u194, u195, u196, u197, u198, u199, u200, u201, u202, u203, u204, u205, u206, u207, u208, u209, u210, u211, u212, u213, u214, u215, u216, u217, u218, u219, x220, x221, x222, x223, x224, x225, x226, x227, x228, x229, x230, x231, x232, x233, u234, u235, u236, u237, u238, u239, u240, u241, u242, u243, u244, u245, u246, u247, u248, u249, u250, u251, u252, u253, u254, u255, u256, u257, u258, u259, u260, u261, u262, u263, u264, u265, u266, u267, u268, u269, u270, u271, u272, u273, u274, u275, u276, u277, u278, u279, u280, u281, u282, u283, u284, u285, u286, u287, u288, u289, u290, u291, u292, u293, u294, u295, u296, u297, u298, u299, u300, u301, u302, u303, u304, u305, u306, u307, u308, u309, u310, u311, u312, u313, u314, u315, u316, u317, u318, u319, u320, u321, u322, u323, u324, u325, u326, u327, u328, u329, u330, u331, u332], []⟩ w') :
    Code.wp Tryd.prog (kReg 37) (Exit.then K Q) ⟨#[u0, u1, u2, u3, u4, u5, u6, u7, u8, u9, u10, u11, u12, .slice (some ⟨gm, 0, none⟩) 16 cm, u14, .slice (some ⟨gv, 0, none⟩) 16 cv, u16, u17, .string P, u19, u20, u21, u22, u23, u24, u25, u26, u27, u28, u29, u30, u31, u32, u33, u34, u35, u36, u37, u38, u39, u40, u41, u42, u43, u44, u45, u46, u47, u48, u49, u50, u51, u52, u53, u54, u55, u56, u57, u58, u59, u60, u61, u62, u63, u64, u65, u66, u67, u68, u69, u70, u71, u72, u73, u74, u75, u76, u77, u78, u79, u80, u81, u82, u83, u84, u85, u86, u87, u88, u89, u90, u91, u92, u93, u94, u95, u96, u97, u98, u99, u100, u101, u102, u103, u104, u105, u106, u107, u108, u109, u110, u111, u112, u113, u114, u115, u116, u117, u118, u119, u120, u121, u122, u123, u124, u125, u126, u127, u128, u129, u130, u131, u132, u133, u134, u135, u136, u137, u138, u139, u140, u141, u142, u143, u144, u145, u146, u147, u148, u149, u150, u151, u152, u153, u154, u155, u156, u157, u158, u159, u160, u161, u162, u163, u164, u165, u166, u167, u168, u169, u170, u171, u172, u173, u174, u175, u176, u177, u178, u179, u180, u181, u182, u183, u184, u185, u186, u187, u188, u189, u190, u191, u192, u193, u194, u195, u196, u197, u198, u199, u200, u201, u202, u203, u204, u205, u206, u207, u208, u209, u210, u211, u212, u213, u214, u215, u216, u217, u218, u219, u220, u221, u222, u223, u224, u225, u226, u227, u228, u229, u230, u231, u232, u233, u234, u235, u236, u237, u238, u239, u240, u241, u242, u243, u244, u245, u246, u247, u248, u249, u250, u251, u252, u253, u254, u255, u256, u257, u258, u259, u260, u261, u262, u263, u264, u265, u266, u267, u268, u269, u270, u271, u272, u273, u274, u275, u276, u277, u278, u279, u280, u281, u282, u283, u284, u285, u286, u287, u288, u289, u290, u291, u292, u293, u294, u295, u296, u297, u298, u299, u300, u301, u302, u303, u304, u305, u306, u307, u308, u309, u310, u311, u312, u313, u314, u315, u316, u317, u318, u319, u320, u321, u322, u323, u324, u325, u326, u327, u328, u329, u330, u331, u332], []⟩ W := by
  have HK := Aside0.mk hK
  have HQ := Aside0.mk hQ
  have HV := Aside0.mk hV
  have HL := Aside0.mk hl
  have HNE := Aside0.mk hne
  have Ht0 := Aside0.mk ht0
  have Ht1 := Aside0.mk ht1
  obtain ⟨x, hx⟩ : ∃ x, x = Ms.getD t0.toNat 0 := ⟨_, rfl⟩
  obtain ⟨y, hy⟩ : ∃ y, y = Ms.getD t1.toNat 0 := ⟨_, rfl⟩
  have hx0 : W.cell? ⟨gm, (t0).toNat, none⟩ = some (.int .u32 x) := by rw [hx]; exact hm _ (by omega)
  have hx1 : W.cell? ⟨gm, (t1).toNat, none⟩ = some (.int .u32 y) := by rw [hy]; exact hm _ (by omega)
  have HX := Aside0.mk (And.intro hx hy)
  have p0 := eq_true h00
  have q0 := eq_true h01
  have p1 := eq_true h10
  have q1 := eq_true h11
  have pa := eq_true (show 8 < P.size by omega)
  have qa := eq_true (show ((8 : Int) < (P.size : Int)) by omega)
  have pb := eq_true (show 9 < P.size by omega)
  have qb := eq_true (show ((9 : Int) < (P.size : Int)) by omega)
  have ra : ∀ h : 8 < P.size, (((P[8]'h).toNat : Nat) : Int) = bt P 8 := bt_at P 8
  have rb : ∀ h : 9 < P.size, (((P[9]'h).toNat : Nat) : Int) = bt P 9 := bt_at P 9
  clear hP hm hK hQ hV hl hne ht0 ht1 hx hy h00 h01 h10 h11
  conv => arg 2; whnf
  refine start_ (n := 14) (S := fun w' => w'.cell? ⟨gm, (t0).toNat, none⟩ = some (.int .u32 x) ∧ w'.cell? ⟨gm, (t1).toNat, none⟩ = some (.int .u32 y)) (ds := []) #[false, false, false, false, false, false, false, false, false, false, false, false, false, false] (by kernel_rfl) rfl rfl ⟨hx0, hx1⟩ (fun hHeld => ?_); refine with_tabW kt37 kb37 (fun HT_ HW_ => ?_)
  have HVd := Aside0.mk HV.out.drew
  clear hx0 hx1
  obtain ⟨wd, hwd⟩ : ∃ W', W' = W.drew := ⟨_, rfl⟩
  rw [← hwd] at HVd hHeld ⊢
  have HWD := Aside0.mk hwd
  clear hwd
  refine pure_ (i := 0) (N := some 220) (v := ?_) (a' := ?_) (lbKMix 14 1) rfl rfl (any_of HT_.out (by kernel_rfl)) (fun _ _ _ h => HQ.out _ _ _ _ h rfl) (Or.inl ⟨by rfl, ?_⟩) ?_ ?_
  rotate_left
  · intro w'
    go_simp
    with_reducible rfl
  rotate_left
  · simp only [Act.put, List.setIfInBounds_toArray, List.set_cons_zero, List.set_cons_succ, i64_w, i32_w]
    rfl
  refine pure_ (i := 1) (N := some 221) (v := ?_) (a' := ?_) (lbKMix 14 3) rfl rfl (any_of HT_.out (by kernel_rfl)) (fun _ _ _ h => HQ.out _ _ _ _ h rfl) (Or.inl ⟨by rfl, ?_⟩) ?_ ?_
  rotate_left
  · intro w'
    go_simp
    with_reducible rfl
  rotate_left
  · simp only [Act.put, List.setIfInBounds_toArray, List.set_cons_zero, List.set_cons_succ, i64_w, i32_w]
    rfl
  refine pure_ (i := 2) (N := some 222) (v := ?_) (a' := ?_) (lbKMix 14 7) rfl rfl (any_of HT_.out (by kernel_rfl)) (fun _ _ _ h => HQ.out _ _ _ _ h rfl) (Or.inl ⟨by rfl, ?_⟩) ?_ ?_
  rotate_left
  · intro w'
    go_simp
    with_reducible rfl
  rotate_left
  · simp only [Act.put, List.setIfInBounds_toArray, List.set_cons_zero, List.set_cons_succ, i64_w, i32_w]
    rfl
  refine pure_ (i := 7) (N := some 227) (v := ?_) (a' := ?_) (lbKMix 14 135) rfl rfl (any_of HT_.out (by kernel_rfl)) (fun _ _ _ h => HQ.out _ _ _ _ h rfl) (Or.inl ⟨by rfl, ?_⟩) ?_ ?_
  rotate_left
  · intro w'
    go_simp
    with_reducible rfl
  rotate_left
  · simp only [Act.put, List.setIfInBounds_toArray, List.set_cons_zero, List.set_cons_succ, i64_w, i32_w]
    rfl
  refine pure_ (i := 8) (N := some 228) (v := ?_) (a' := ?_) (lbKMix 14 391) rfl rfl (any_of HT_.out (by kernel_rfl)) (fun _ _ _ h => HQ.out _ _ _ _ h rfl) (Or.inl ⟨by rfl, ?_⟩) ?_ ?_
  rotate_left
  · intro w'
    go_simp
    with_reducible rfl
  rotate_left
  · simp only [Act.put, List.setIfInBounds_toArray, List.set_cons_zero, List.set_cons_succ, i64_w, i32_w]
    rfl
  refine take_ (i := 3) (N := some 223) (v := ?_) (a' := ?_) (lbKMix 14 399) rfl rfl (take_ofW HT_.out HW_.out (by kernel_rfl)) (fun _ _ _ h => HQ.out _ _ _ _ h rfl) (Or.inl ⟨by rfl, ?_⟩) hHeld ?_ ?_
  rotate_left
  · rintro w' ⟨s0, s1⟩
    go_simp
    with_reducible rfl
  rotate_left
  · simp only [Act.put, List.setIfInBounds_toArray, List.set_cons_zero, List.set_cons_succ, i64_w, i32_w]
    rfl
  refine take_ (i := 9) (N := some 229) (v := ?_) (a' := ?_) (lbKMix 14 911) rfl rfl (take_ofW HT_.out HW_.out (by kernel_rfl)) (fun _ _ _ h => HQ.out _ _ _ _ h rfl) (Or.inl ⟨by rfl, ?_⟩) hHeld ?_ ?_
  rotate_left
  · rintro w' ⟨s0, s1⟩
    go_simp
    with_reducible rfl
  rotate_left
  · simp only [Act.put, List.setIfInBounds_toArray, List.set_cons_zero, List.set_cons_succ, i64_w, i32_w]
    rfl
  refine one_ (i := 4) (N := some 224) (lbKMix 14 927) rfl rfl (one_of HT_.out (by kernel_rfl)) (by decide) (fun K hK => ?_)
  refine goes_ Tryd.func60 (by kernel_rfl) rfl #[.int .u8 (bt P 8)] (by rfl) rfl rfl (by (try simp only [List.map_toArray, List.map_cons, List.map_nil]); first | done | rfl) ?_
  with_reducible refine (hamperref05_place.calls (bt P 8) t0 _ Ht0.out).mono ?_
  rintro e w' ⟨rfl, ⟨n0, rfl⟩⟩
  refine ⟨_, rfl, ?_⟩
  refine hK.out _ _ ⟨hHeld.1, hHeld.2⟩ (fun hHeld => ?_)
  clear hK K
  refine norm_ (a' := ?_) ?_ ?_
  rotate_left
  · show Act.put _ (some 224) _ = _
    simp only [Act.put, List.setIfInBounds_toArray, List.set_cons_zero, List.set_cons_succ, i64_w, i32_w]
    rfl
  refine pure_ (i := 5) (N := some 225) (v := ?_) (a' := ?_) (lbKMix 14 959) rfl rfl (any_of HT_.out (by kernel_rfl)) (fun _ _ _ h => HQ.out _ _ _ _ h rfl) (Or.inl ⟨by rfl, ?_⟩) ?_ ?_
  rotate_left
  · intro w'
    go_simp
    with_reducible rfl
  rotate_left
  · simp only [Act.put, List.setIfInBounds_toArray, List.set_cons_zero, List.set_cons_succ, i64_w, i32_w]
    rfl
  refine take_ (i := 6) (N := some 226) (v := ?_) (a' := ?_) (lbKMix 14 1023) rfl rfl (take_ofW HT_.out HW_.out (by kernel_rfl)) (fun _ _ _ h => HQ.out _ _ _ _ h rfl) (Or.inl ⟨by rfl, ?_⟩) hHeld ?_ ?_
  rotate_left
  · rintro w' ⟨s0, s1⟩
    go_simp
    with_reducible rfl
  rotate_left
  · simp only [Act.put, List.setIfInBounds_toArray, List.set_cons_zero, List.set_cons_succ, i64_w, i32_w]
    rfl
  refine one_ (i := 10) (N := some 230) (lbKMix 14 2047) rfl rfl (one_of HT_.out (by kernel_rfl)) (by decide) (fun K hK => ?_)
  refine goes_ Tryd.func60 (by kernel_rfl) rfl #[.int .u8 (bt P 9)] (by rfl) rfl rfl (by (try simp only [List.map_toArray, List.map_cons, List.map_nil]); first | done | rfl) ?_
  with_reducible refine (hamperref05_place.calls (bt P 9) t1 _ Ht1.out).mono ?_
  rintro e w' ⟨rfl, ⟨n1, rfl⟩⟩
  refine ⟨_, rfl, ?_⟩
  refine hK.out _ _ ⟨hHeld.1, hHeld.2⟩ (fun hHeld => ?_)
  clear hK K
  refine norm_ (a' := ?_) ?_ ?_
  rotate_left
  · show Act.put _ (some 230) _ = _
    simp only [Act.put, List.setIfInBounds_toArray, List.set_cons_zero, List.set_cons_succ, i64_w, i32_w]
    rfl
  refine pure_ (i := 11) (N := some 231) (v := ?_) (a' := ?_) (lbKMix 14 4095) rfl rfl (any_of HT_.out (by kernel_rfl)) (fun _ _ _ h => HQ.out _ _ _ _ h rfl) (Or.inl ⟨by rfl, ?_⟩) ?_ ?_
  rotate_left
  · intro w'
    go_simp
    with_reducible rfl
  rotate_left
  · simp only [Act.put, List.setIfInBounds_toArray, List.set_cons_zero, List.set_cons_succ, i64_w, i32_w]
    rfl
  refine take_ (i := 12) (N := some 232) (v := ?_) (a' := ?_) (lbKMix 14 8191) rfl rfl (take_ofW HT_.out HW_.out (by kernel_rfl)) (fun _ _ _ h => HQ.out _ _ _ _ h rfl) (Or.inl ⟨by rfl, ?_⟩) hHeld ?_ ?_
  rotate_left
  · rintro w' ⟨s0, s1⟩
    go_simp
    with_reducible rfl
  rotate_left
  · simp only [Act.put, List.setIfInBounds_toArray, List.set_cons_zero, List.set_cons_succ, i64_w, i32_w]
    rfl
  refine one_ (i := 13) (N := some 233) (lbKMix 14 16383) rfl rfl (one_of HT_.out (by kernel_rfl)) (by decide) (fun K hK => ?_)
  refine goes_ Tryd.func59 (by kernel_rfl) rfl #[.slice (some ⟨gv, 0, none⟩) 16 cv, .int .i64 0, .int .i64 5, .int .i64 10, .int .i64 15, .int .u32 x, .int .u32 y] (by rfl) rfl rfl (by (try simp only [List.map_toArray, List.map_cons, List.map_nil]); first | done | rfl) ?_
  have hc := mix_calls gv cv V 0 5 10 15 x y ((wd.drewN n0).drewN n1) ((HVd.out.drewN n0).drewN n1) HL.out (by decide) (by decide) (by decide) (by decide) (by decide) (by decide) (by decide) (by decide) (by decide) (by decide)
  refine Calls.mono (show Calls _ _ _ _ _ from hc) ?_
  rintro e w5 ⟨rfl, hv, hk⟩
  refine ⟨_, rfl, ?_⟩
  have hs0 := Bk.keep_cell hk hHeld.1 HNE.out
  have hs1 := Bk.keep_cell hk hHeld.2 HNE.out
  have HV5 := Aside0.mk hv
  have HK5 := Aside0.mk hk
  clear hv hk hc
  refine hK.out _ _ ⟨hs0, hs1⟩ (fun hHeld => ?_)
  clear hK K
  refine norm_ (a' := ?_) ?_ ?_
  rotate_left
  · show Act.put _ (some 233) _ = _
    simp only [Act.put, List.setIfInBounds_toArray, List.set_cons_zero, List.set_cons_succ, i64_w, i32_w]
    rfl
  refine done_ (done_of HT_.out (by kernel_rfl)) ?_
  go_wp2_with fail
  refine HK.out _ _ _ _ _ _ _ _ _ _ _ _ _ _ _ ?_ ?_
  · rw [← HX.out.1, ← HX.out.2]
    exact HV5.out
  · have hk := HK5.out
    rw [HWD.out] at hk
    exact ⟨hk.size, hk.block, hk.os, hk.tape, hk.output⟩
set_option maxHeartbeats 8000000 in
set_option maxRecDepth 1000000 in
theorem m_mix5 {u0 u1 u2 u3 u4 u5 u6 u7 u8 u9 u10 u11 u12 u14 u16 u17 u19 u20 u21 u22 u23 u24 u25 u26 u27 u28 u29 u30 u31 u32 u33 u34 u35 u36 u37 u38 u39 u40 u41 u42 u43 u44 u45 u46 u47 u48 u49 u50 u51 u52 u53 u54 u55 u56 u57 u58 u59 u60 u61 u62 u63 u64 u65 u66 u67 u68 u69 u70 u71 u72 u73 u74 u75 u76 u77 u78 u79 u80 u81 u82 u83 u84 u85 u86 u87 u88 u89 u90 u91 u92 u93 u94 u95 u96 u97 u98 u99 u100 u101 u102 u103 u104 u105 u106 u107 u108 u109 u110 u111 u112 u113 u114 u115 u116 u117 u118 u119 u120 u121 u122 u123 u124 u125 u126 u127 u128 u129 u130 u131 u132 u133 u134 u135 u136 u137 u138 u139 u140 u141 u142 u143 u144 u145 u146 u147 u148 u149 u150 u151 u152 u153 u154 u155 u156 u157 u158 u159 u160 u161 u162 u163 u164 u165 u166 u167 u168 u169 u170 u171 u172 u173 u174 u175 u176 u177 u178 u179 u180 u181 u182 u183 u184 u185 u186 u187 u188 u189 u190 u191 u192 u193 u194 u195 u196 u197 u198 u199 u200 u201 u202 u203 u204 u205 u206 u207 u208 u209 u210 u211 u212 u213 u214 u215 u216 u217 u218 u219 u220 u221 u222 u223 u224 u225 u226 u227 u228 u229 u230 u231 u232 u233 u234 u235 u236 u237 u238 u239 u240 u241 u242 u243 u244 u245 u246 u247 u248 u249 u250 u251 u252 u253 u254 u255 u256 u257 u258 u259 u260 u261 u262 u263 u264 u265 u266 u267 u268 u269 u270 u271 u272 u273 u274 u275 u276 u277 u278 u279 u280 u281 u282 u283 u284 u285 u286 u287 u288 u289 u290 u291 u292 u293 u294 u295 u296 u297 u298 u299 u300 u301 u302 u303 u304 u305 u306 u307 u308 u309 u310 u311 u312 u313 u314 u315 u316 u317 u318 u319 u320 u321 u322 u323 u324 u325 u326 u327 u328 u329 u330 u331 u332 : Value} (gv cv gm cm : Nat) (P : ByteArray) (V Ms : List Int) (t0 t1 : Int) (W : World) (hP : P.size = 16) (ht0 : hamperref05_place.f (bt P 10) = some t0) (ht1 : hamperref05_place.f (bt P 11) = some t1) (h00 : 0 ≤ t0) (h01 : t0 < 16) (h10 : 0 ≤ t1) (h11 : t1 < 16)
    (hm : ∀ j, j < 16 → W.cell? ⟨gm, j, none⟩ = some (.int .u32 (Ms.getD j 0))) (hne : gm ≠ gv) (hl : V.length = 16) (hV : VAt W gv V) {K : Act → World → Prop} {Q : Exit → Act → World → Prop} (hQ : ∀ c a a' w, Q (Exit.panic c) a w → a.defers = a'.defers → Q (Exit.panic c) a' w)
    (hK : ∀ (x234 x235 x236 x237 x238 x239 x240 x241 x242 x243 x244 x245 x246 x247 : Value) (w' : World), VAt w' gv (mixL V 1 6 11 12 (Ms.getD t0.toNat 0) (Ms.getD t1.toNat 0)) → Bk.KeepBut W w' gv none → K ⟨#[u0, u1, u2, u3, u4, u5, u6, u7, u8, u9, u10, u11, u12, .slice (some ⟨gm, 0, none⟩) 16 cm, u14, .slice (some ⟨gv, 0, none⟩) 16 cv, u16, u17, .string P, u19, u20, u21, u22, u23, u24, u25, u26, u27, u28, u29, u30, u31, u32, u33, u34, u35, u36, u37, u38, u39, u40, u41, u42, u43, u44, u45, u46, u47, u48, u49, u50, u51, u52, u53, u54, u55, u56, u57, u58, u59, u60, u61, u62, u63, u64, u65, u66, u67, u68, u69, u70, u71, u72, u73, u74, u75, u76, u77, u78, u79, u80, u81, u82, u83, u84, u85, u86, u87, u88, u89, u90, u91, u92, u93, u94, u95, u96, u97, u98, u99, u100, u101, u102, u103, u104, u105, u106, u107, u108, u109, u110, u111, u112, u113, u114, u115, u116, u117, u118, u119, u120, u121, u122, u123, u124, u125, u126, u127, u128, u129, u130, u131, u132, u133, u134, u135, u136, u137, u138, u139, u140, u141, u142, u143, u144, u145, u146, u147, u148, u149, u150, u151, u152, u153, u154, u155, u156, u157, u158, u159, u160, u161, u162, u163, u164, u165, u166, u167, u168, u169, u170, u171, u172, u173, u174, u175, u176, u177, u178, u179, u180, u181, u182, u183, u184, u185, u186, u187, u188, u189, u190, u191, u192, u193, u194, u195, u196, u197, u198, u199, u200, u201, u202, u203, u204, u205, u206, u207, u208, u209, u210, u211, u212, u213, u214, u215, u216, u217, u218, u219, u220, u221, u222, u223, u224, u225, u226, u227, u228, u229, u230, u231, u232, u233, x234, x235, x236, x237, x238, x239, x240, x241, x242, x243, x244, x245, x246, x247, u248, u249, u250, u251, u252, u253, u254, u255, u256, u257, u258, u259, u260, u261, u262, u263, u264, u265, u266, u267, u268, u269, u270, u271, u272, u273, u274, u275, u276, u277, u278, u279, u280, u281, u282, u283, u284, u285, u286, u287, u288, u289, u290, u291, u292, u293, u294, u295, u296, u297, u298, u299, u300, u301, u302, u303, u304, u305, u306, u307, u308, u309, u310, u311, u312, u313, u314, u315, u316, u317, u318, u319, u320, u321, u322, u323, u324, u325, u326, u327, u328, u329, u330, u331, u332], []⟩ w') :
    Code.wp Tryd.prog (kReg 38) (Exit.then K Q) ⟨#[u0, u1, u2, u3, u4, u5, u6, u7, u8, u9, u10, u11, u12, .slice (some ⟨gm, 0, none⟩) 16 cm, u14, .slice (some ⟨gv, 0, none⟩) 16 cv, u16, u17, .string P, u19, u20, u21, u22, u23, u24, u25, u26, u27, u28, u29, u30, u31, u32, u33, u34, u35, u36, u37, u38, u39, u40, u41, u42, u43, u44, u45, u46, u47, u48, u49, u50, u51, u52, u53, u54, u55, u56, u57, u58, u59, u60, u61, u62, u63, u64, u65, u66, u67, u68, u69, u70, u71, u72, u73, u74, u75, u76, u77, u78, u79, u80, u81, u82, u83, u84, u85, u86, u87, u88, u89, u90, u91, u92, u93, u94, u95, u96, u97, u98, u99, u100, u101, u102, u103, u104, u105, u106, u107, u108, u109, u110, u111, u112, u113, u114, u115, u116, u117, u118, u119, u120, u121, u122, u123, u124, u125, u126, u127, u128, u129, u130, u131, u132, u133, u134, u135, u136, u137, u138, u139, u140, u141, u142, u143, u144, u145, u146, u147, u148, u149, u150, u151, u152, u153, u154, u155, u156, u157, u158, u159, u160, u161, u162, u163, u164, u165, u166, u167, u168, u169, u170, u171, u172, u173, u174, u175, u176, u177, u178, u179, u180, u181, u182, u183, u184, u185, u186, u187, u188, u189, u190, u191, u192, u193, u194, u195, u196, u197, u198, u199, u200, u201, u202, u203, u204, u205, u206, u207, u208, u209, u210, u211, u212, u213, u214, u215, u216, u217, u218, u219, u220, u221, u222, u223, u224, u225, u226, u227, u228, u229, u230, u231, u232, u233, u234, u235, u236, u237, u238, u239, u240, u241, u242, u243, u244, u245, u246, u247, u248, u249, u250, u251, u252, u253, u254, u255, u256, u257, u258, u259, u260, u261, u262, u263, u264, u265, u266, u267, u268, u269, u270, u271, u272, u273, u274, u275, u276, u277, u278, u279, u280, u281, u282, u283, u284, u285, u286, u287, u288, u289, u290, u291, u292, u293, u294, u295, u296, u297, u298, u299, u300, u301, u302, u303, u304, u305, u306, u307, u308, u309, u310, u311, u312, u313, u314, u315, u316, u317, u318, u319, u320, u321, u322, u323, u324, u325, u326, u327, u328, u329, u330, u331, u332], []⟩ W := by
  have HK := Aside0.mk hK
  have HQ := Aside0.mk hQ
  have HV := Aside0.mk hV
  have HL := Aside0.mk hl
  have HNE := Aside0.mk hne
  have Ht0 := Aside0.mk ht0
  have Ht1 := Aside0.mk ht1
  obtain ⟨x, hx⟩ : ∃ x, x = Ms.getD t0.toNat 0 := ⟨_, rfl⟩
  obtain ⟨y, hy⟩ : ∃ y, y = Ms.getD t1.toNat 0 := ⟨_, rfl⟩
  have hx0 : W.cell? ⟨gm, (t0).toNat, none⟩ = some (.int .u32 x) := by rw [hx]; exact hm _ (by omega)
  have hx1 : W.cell? ⟨gm, (t1).toNat, none⟩ = some (.int .u32 y) := by rw [hy]; exact hm _ (by omega)
  have HX := Aside0.mk (And.intro hx hy)
  have p0 := eq_true h00
  have q0 := eq_true h01
  have p1 := eq_true h10
  have q1 := eq_true h11
  have pa := eq_true (show 10 < P.size by omega)
  have qa := eq_true (show ((10 : Int) < (P.size : Int)) by omega)
  have pb := eq_true (show 11 < P.size by omega)
  have qb := eq_true (show ((11 : Int) < (P.size : Int)) by omega)
  have ra : ∀ h : 10 < P.size, (((P[10]'h).toNat : Nat) : Int) = bt P 10 := bt_at P 10
  have rb : ∀ h : 11 < P.size, (((P[11]'h).toNat : Nat) : Int) = bt P 11 := bt_at P 11
  clear hP hm hK hQ hV hl hne ht0 ht1 hx hy h00 h01 h10 h11
  conv => arg 2; whnf
  refine start_ (n := 14) (S := fun w' => w'.cell? ⟨gm, (t0).toNat, none⟩ = some (.int .u32 x) ∧ w'.cell? ⟨gm, (t1).toNat, none⟩ = some (.int .u32 y)) (ds := []) #[false, false, false, false, false, false, false, false, false, false, false, false, false, false] (by kernel_rfl) rfl rfl ⟨hx0, hx1⟩ (fun hHeld => ?_); refine with_tabW kt38 kb38 (fun HT_ HW_ => ?_)
  have HVd := Aside0.mk HV.out.drew
  clear hx0 hx1
  obtain ⟨wd, hwd⟩ : ∃ W', W' = W.drew := ⟨_, rfl⟩
  rw [← hwd] at HVd hHeld ⊢
  have HWD := Aside0.mk hwd
  clear hwd
  refine pure_ (i := 0) (N := some 234) (v := ?_) (a' := ?_) (lbKMix 14 1) rfl rfl (any_of HT_.out (by kernel_rfl)) (fun _ _ _ h => HQ.out _ _ _ _ h rfl) (Or.inl ⟨by rfl, ?_⟩) ?_ ?_
  rotate_left
  · intro w'
    go_simp
    with_reducible rfl
  rotate_left
  · simp only [Act.put, List.setIfInBounds_toArray, List.set_cons_zero, List.set_cons_succ, i64_w, i32_w]
    rfl
  refine pure_ (i := 1) (N := some 235) (v := ?_) (a' := ?_) (lbKMix 14 3) rfl rfl (any_of HT_.out (by kernel_rfl)) (fun _ _ _ h => HQ.out _ _ _ _ h rfl) (Or.inl ⟨by rfl, ?_⟩) ?_ ?_
  rotate_left
  · intro w'
    go_simp
    with_reducible rfl
  rotate_left
  · simp only [Act.put, List.setIfInBounds_toArray, List.set_cons_zero, List.set_cons_succ, i64_w, i32_w]
    rfl
  refine pure_ (i := 2) (N := some 236) (v := ?_) (a' := ?_) (lbKMix 14 7) rfl rfl (any_of HT_.out (by kernel_rfl)) (fun _ _ _ h => HQ.out _ _ _ _ h rfl) (Or.inl ⟨by rfl, ?_⟩) ?_ ?_
  rotate_left
  · intro w'
    go_simp
    with_reducible rfl
  rotate_left
  · simp only [Act.put, List.setIfInBounds_toArray, List.set_cons_zero, List.set_cons_succ, i64_w, i32_w]
    rfl
  refine pure_ (i := 7) (N := some 241) (v := ?_) (a' := ?_) (lbKMix 14 135) rfl rfl (any_of HT_.out (by kernel_rfl)) (fun _ _ _ h => HQ.out _ _ _ _ h rfl) (Or.inl ⟨by rfl, ?_⟩) ?_ ?_
  rotate_left
  · intro w'
    go_simp
    with_reducible rfl
  rotate_left
  · simp only [Act.put, List.setIfInBounds_toArray, List.set_cons_zero, List.set_cons_succ, i64_w, i32_w]
    rfl
  refine pure_ (i := 8) (N := some 242) (v := ?_) (a' := ?_) (lbKMix 14 391) rfl rfl (any_of HT_.out (by kernel_rfl)) (fun _ _ _ h => HQ.out _ _ _ _ h rfl) (Or.inl ⟨by rfl, ?_⟩) ?_ ?_
  rotate_left
  · intro w'
    go_simp
    with_reducible rfl
  rotate_left
  · simp only [Act.put, List.setIfInBounds_toArray, List.set_cons_zero, List.set_cons_succ, i64_w, i32_w]
    rfl
  refine take_ (i := 3) (N := some 237) (v := ?_) (a' := ?_) (lbKMix 14 399) rfl rfl (take_ofW HT_.out HW_.out (by kernel_rfl)) (fun _ _ _ h => HQ.out _ _ _ _ h rfl) (Or.inl ⟨by rfl, ?_⟩) hHeld ?_ ?_
  rotate_left
  · rintro w' ⟨s0, s1⟩
    go_simp
    with_reducible rfl
  rotate_left
  · simp only [Act.put, List.setIfInBounds_toArray, List.set_cons_zero, List.set_cons_succ, i64_w, i32_w]
    rfl
  refine take_ (i := 9) (N := some 243) (v := ?_) (a' := ?_) (lbKMix 14 911) rfl rfl (take_ofW HT_.out HW_.out (by kernel_rfl)) (fun _ _ _ h => HQ.out _ _ _ _ h rfl) (Or.inl ⟨by rfl, ?_⟩) hHeld ?_ ?_
  rotate_left
  · rintro w' ⟨s0, s1⟩
    go_simp
    with_reducible rfl
  rotate_left
  · simp only [Act.put, List.setIfInBounds_toArray, List.set_cons_zero, List.set_cons_succ, i64_w, i32_w]
    rfl
  refine one_ (i := 4) (N := some 238) (lbKMix 14 927) rfl rfl (one_of HT_.out (by kernel_rfl)) (by decide) (fun K hK => ?_)
  refine goes_ Tryd.func60 (by kernel_rfl) rfl #[.int .u8 (bt P 10)] (by rfl) rfl rfl (by (try simp only [List.map_toArray, List.map_cons, List.map_nil]); first | done | rfl) ?_
  with_reducible refine (hamperref05_place.calls (bt P 10) t0 _ Ht0.out).mono ?_
  rintro e w' ⟨rfl, ⟨n0, rfl⟩⟩
  refine ⟨_, rfl, ?_⟩
  refine hK.out _ _ ⟨hHeld.1, hHeld.2⟩ (fun hHeld => ?_)
  clear hK K
  refine norm_ (a' := ?_) ?_ ?_
  rotate_left
  · show Act.put _ (some 238) _ = _
    simp only [Act.put, List.setIfInBounds_toArray, List.set_cons_zero, List.set_cons_succ, i64_w, i32_w]
    rfl
  refine pure_ (i := 5) (N := some 239) (v := ?_) (a' := ?_) (lbKMix 14 959) rfl rfl (any_of HT_.out (by kernel_rfl)) (fun _ _ _ h => HQ.out _ _ _ _ h rfl) (Or.inl ⟨by rfl, ?_⟩) ?_ ?_
  rotate_left
  · intro w'
    go_simp
    with_reducible rfl
  rotate_left
  · simp only [Act.put, List.setIfInBounds_toArray, List.set_cons_zero, List.set_cons_succ, i64_w, i32_w]
    rfl
  refine take_ (i := 6) (N := some 240) (v := ?_) (a' := ?_) (lbKMix 14 1023) rfl rfl (take_ofW HT_.out HW_.out (by kernel_rfl)) (fun _ _ _ h => HQ.out _ _ _ _ h rfl) (Or.inl ⟨by rfl, ?_⟩) hHeld ?_ ?_
  rotate_left
  · rintro w' ⟨s0, s1⟩
    go_simp
    with_reducible rfl
  rotate_left
  · simp only [Act.put, List.setIfInBounds_toArray, List.set_cons_zero, List.set_cons_succ, i64_w, i32_w]
    rfl
  refine one_ (i := 10) (N := some 244) (lbKMix 14 2047) rfl rfl (one_of HT_.out (by kernel_rfl)) (by decide) (fun K hK => ?_)
  refine goes_ Tryd.func60 (by kernel_rfl) rfl #[.int .u8 (bt P 11)] (by rfl) rfl rfl (by (try simp only [List.map_toArray, List.map_cons, List.map_nil]); first | done | rfl) ?_
  with_reducible refine (hamperref05_place.calls (bt P 11) t1 _ Ht1.out).mono ?_
  rintro e w' ⟨rfl, ⟨n1, rfl⟩⟩
  refine ⟨_, rfl, ?_⟩
  refine hK.out _ _ ⟨hHeld.1, hHeld.2⟩ (fun hHeld => ?_)
  clear hK K
  refine norm_ (a' := ?_) ?_ ?_
  rotate_left
  · show Act.put _ (some 244) _ = _
    simp only [Act.put, List.setIfInBounds_toArray, List.set_cons_zero, List.set_cons_succ, i64_w, i32_w]
    rfl
  refine pure_ (i := 11) (N := some 245) (v := ?_) (a' := ?_) (lbKMix 14 4095) rfl rfl (any_of HT_.out (by kernel_rfl)) (fun _ _ _ h => HQ.out _ _ _ _ h rfl) (Or.inl ⟨by rfl, ?_⟩) ?_ ?_
  rotate_left
  · intro w'
    go_simp
    with_reducible rfl
  rotate_left
  · simp only [Act.put, List.setIfInBounds_toArray, List.set_cons_zero, List.set_cons_succ, i64_w, i32_w]
    rfl
  refine take_ (i := 12) (N := some 246) (v := ?_) (a' := ?_) (lbKMix 14 8191) rfl rfl (take_ofW HT_.out HW_.out (by kernel_rfl)) (fun _ _ _ h => HQ.out _ _ _ _ h rfl) (Or.inl ⟨by rfl, ?_⟩) hHeld ?_ ?_
  rotate_left
  · rintro w' ⟨s0, s1⟩
    go_simp
    with_reducible rfl
  rotate_left
  · simp only [Act.put, List.setIfInBounds_toArray, List.set_cons_zero, List.set_cons_succ, i64_w, i32_w]
    rfl
  refine one_ (i := 13) (N := some 247) (lbKMix 14 16383) rfl rfl (one_of HT_.out (by kernel_rfl)) (by decide) (fun K hK => ?_)
  refine goes_ Tryd.func59 (by kernel_rfl) rfl #[.slice (some ⟨gv, 0, none⟩) 16 cv, .int .i64 1, .int .i64 6, .int .i64 11, .int .i64 12, .int .u32 x, .int .u32 y] (by rfl) rfl rfl (by (try simp only [List.map_toArray, List.map_cons, List.map_nil]); first | done | rfl) ?_
  have hc := mix_calls gv cv V 1 6 11 12 x y ((wd.drewN n0).drewN n1) ((HVd.out.drewN n0).drewN n1) HL.out (by decide) (by decide) (by decide) (by decide) (by decide) (by decide) (by decide) (by decide) (by decide) (by decide)
  refine Calls.mono (show Calls _ _ _ _ _ from hc) ?_
  rintro e w5 ⟨rfl, hv, hk⟩
  refine ⟨_, rfl, ?_⟩
  have hs0 := Bk.keep_cell hk hHeld.1 HNE.out
  have hs1 := Bk.keep_cell hk hHeld.2 HNE.out
  have HV5 := Aside0.mk hv
  have HK5 := Aside0.mk hk
  clear hv hk hc
  refine hK.out _ _ ⟨hs0, hs1⟩ (fun hHeld => ?_)
  clear hK K
  refine norm_ (a' := ?_) ?_ ?_
  rotate_left
  · show Act.put _ (some 247) _ = _
    simp only [Act.put, List.setIfInBounds_toArray, List.set_cons_zero, List.set_cons_succ, i64_w, i32_w]
    rfl
  refine done_ (done_of HT_.out (by kernel_rfl)) ?_
  go_wp2_with fail
  refine HK.out _ _ _ _ _ _ _ _ _ _ _ _ _ _ _ ?_ ?_
  · rw [← HX.out.1, ← HX.out.2]
    exact HV5.out
  · have hk := HK5.out
    rw [HWD.out] at hk
    exact ⟨hk.size, hk.block, hk.os, hk.tape, hk.output⟩
set_option maxHeartbeats 8000000 in
set_option maxRecDepth 1000000 in
theorem m_mix6 {u0 u1 u2 u3 u4 u5 u6 u7 u8 u9 u10 u11 u12 u14 u16 u17 u19 u20 u21 u22 u23 u24 u25 u26 u27 u28 u29 u30 u31 u32 u33 u34 u35 u36 u37 u38 u39 u40 u41 u42 u43 u44 u45 u46 u47 u48 u49 u50 u51 u52 u53 u54 u55 u56 u57 u58 u59 u60 u61 u62 u63 u64 u65 u66 u67 u68 u69 u70 u71 u72 u73 u74 u75 u76 u77 u78 u79 u80 u81 u82 u83 u84 u85 u86 u87 u88 u89 u90 u91 u92 u93 u94 u95 u96 u97 u98 u99 u100 u101 u102 u103 u104 u105 u106 u107 u108 u109 u110 u111 u112 u113 u114 u115 u116 u117 u118 u119 u120 u121 u122 u123 u124 u125 u126 u127 u128 u129 u130 u131 u132 u133 u134 u135 u136 u137 u138 u139 u140 u141 u142 u143 u144 u145 u146 u147 u148 u149 u150 u151 u152 u153 u154 u155 u156 u157 u158 u159 u160 u161 u162 u163 u164 u165 u166 u167 u168 u169 u170 u171 u172 u173 u174 u175 u176 u177 u178 u179 u180 u181 u182 u183 u184 u185 u186 u187 u188 u189 u190 u191 u192 u193 u194 u195 u196 u197 u198 u199 u200 u201 u202 u203 u204 u205 u206 u207 u208 u209 u210 u211 u212 u213 u214 u215 u216 u217 u218 u219 u220 u221 u222 u223 u224 u225 u226 u227 u228 u229 u230 u231 u232 u233 u234 u235 u236 u237 u238 u239 u240 u241 u242 u243 u244 u245 u246 u247 u248 u249 u250 u251 u252 u253 u254 u255 u256 u257 u258 u259 u260 u261 u262 u263 u264 u265 u266 u267 u268 u269 u270 u271 u272 u273 u274 u275 u276 u277 u278 u279 u280 u281 u282 u283 u284 u285 u286 u287 u288 u289 u290 u291 u292 u293 u294 u295 u296 u297 u298 u299 u300 u301 u302 u303 u304 u305 u306 u307 u308 u309 u310 u311 u312 u313 u314 u315 u316 u317 u318 u319 u320 u321 u322 u323 u324 u325 u326 u327 u328 u329 u330 u331 u332 : Value} (gv cv gm cm : Nat) (P : ByteArray) (V Ms : List Int) (t0 t1 : Int) (W : World) (hP : P.size = 16) (ht0 : hamperref05_place.f (bt P 12) = some t0) (ht1 : hamperref05_place.f (bt P 13) = some t1) (h00 : 0 ≤ t0) (h01 : t0 < 16) (h10 : 0 ≤ t1) (h11 : t1 < 16)
    (hm : ∀ j, j < 16 → W.cell? ⟨gm, j, none⟩ = some (.int .u32 (Ms.getD j 0))) (hne : gm ≠ gv) (hl : V.length = 16) (hV : VAt W gv V) {K : Act → World → Prop} {Q : Exit → Act → World → Prop} (hQ : ∀ c a a' w, Q (Exit.panic c) a w → a.defers = a'.defers → Q (Exit.panic c) a' w)
    (hK : ∀ (x248 x249 x250 x251 x252 x253 x254 x255 x256 x257 x258 x259 x260 x261 : Value) (w' : World), VAt w' gv (mixL V 2 7 8 13 (Ms.getD t0.toNat 0) (Ms.getD t1.toNat 0)) → Bk.KeepBut W w' gv none → K ⟨#[u0, u1, u2, u3, u4, u5, u6, u7, u8, u9, u10, u11, u12, .slice (some ⟨gm, 0, none⟩) 16 cm, u14, .slice (some ⟨gv, 0, none⟩) 16 cv, u16, u17, .string P, u19, u20, u21, u22, u23, u24, u25, u26, u27, u28, u29, u30, u31, u32, u33, u34, u35, u36, u37, u38, u39, u40, u41, u42, u43, u44, u45, u46, u47, u48, u49, u50, u51, u52, u53, u54, u55, u56, u57, u58, u59, u60, u61, u62, u63, u64, u65, u66, u67, u68, u69, u70, u71, u72, u73, u74, u75, u76, u77, u78, u79, u80, u81, u82, u83, u84, u85, u86, u87, u88, u89, u90, u91, u92, u93, u94, u95, u96, u97, u98, u99, u100, u101, u102, u103, u104, u105, u106, u107, u108, u109, u110, u111, u112, u113, u114, u115, u116, u117, u118, u119, u120, u121, u122, u123, u124, u125, u126, u127, u128, u129, u130, u131, u132, u133, u134, u135, u136, u137, u138, u139, u140, u141, u142, u143, u144, u145, u146, u147, u148, u149, u150, u151, u152, u153, u154, u155, u156, u157, u158, u159, u160, u161, u162, u163, u164, u165, u166, u167, u168, u169, u170, u171, u172, u173, u174, u175, u176, u177, u178, u179, u180, u181, u182, u183, u184, u185, u186, u187, u188, u189, u190, u191, u192, u193, u194, u195, u196, u197, u198, u199, u200, u201, u202, u203, u204, u205, u206, u207, u208, u209, u210, u211, u212, u213, u214, u215, u216, u217, u218, u219, u220, u221, u222, u223, u224, u225, u226, u227, u228, u229, u230, u231, u232, u233, u234, u235, u236, u237, u238, u239, u240, u241, u242, u243, u244, u245, u246, u247, x248, x249, x250, x251, x252, x253, x254, x255, x256, x257, x258, x259, x260, x261, u262, u263, u264, u265, u266, u267, u268, u269, u270, u271, u272, u273, u274, u275, u276, u277, u278, u279, u280, u281, u282, u283, u284, u285, u286, u287, u288, u289, u290, u291, u292, u293, u294, u295, u296, u297, u298, u299, u300, u301, u302, u303, u304, u305, u306, u307, u308, u309, u310, u311, u312, u313, u314, u315, u316, u317, u318, u319, u320, u321, u322, u323, u324, u325, u326, u327, u328, u329, u330, u331, u332], []⟩ w') :
    Code.wp Tryd.prog (kReg 39) (Exit.then K Q) ⟨#[u0, u1, u2, u3, u4, u5, u6, u7, u8, u9, u10, u11, u12, .slice (some ⟨gm, 0, none⟩) 16 cm, u14, .slice (some ⟨gv, 0, none⟩) 16 cv, u16, u17, .string P, u19, u20, u21, u22, u23, u24, u25, u26, u27, u28, u29, u30, u31, u32, u33, u34, u35, u36, u37, u38, u39, u40, u41, u42, u43, u44, u45, u46, u47, u48, u49, u50, u51, u52, u53, u54, u55, u56, u57, u58, u59, u60, u61, u62, u63, u64, u65, u66, u67, u68, u69, u70, u71, u72, u73, u74, u75, u76, u77, u78, u79, u80, u81, u82, u83, u84, u85, u86, u87, u88, u89, u90, u91, u92, u93, u94, u95, u96, u97, u98, u99, u100, u101, u102, u103, u104, u105, u106, u107, u108, u109, u110, u111, u112, u113, u114, u115, u116, u117, u118, u119, u120, u121, u122, u123, u124, u125, u126, u127, u128, u129, u130, u131, u132, u133, u134, u135, u136, u137, u138, u139, u140, u141, u142, u143, u144, u145, u146, u147, u148, u149, u150, u151, u152, u153, u154, u155, u156, u157, u158, u159, u160, u161, u162, u163, u164, u165, u166, u167, u168, u169, u170, u171, u172, u173, u174, u175, u176, u177, u178, u179, u180, u181, u182, u183, u184, u185, u186, u187, u188, u189, u190, u191, u192, u193, u194, u195, u196, u197, u198, u199, u200, u201, u202, u203, u204, u205, u206, u207, u208, u209, u210, u211, u212, u213, u214, u215, u216, u217, u218, u219, u220, u221, u222, u223, u224, u225, u226, u227, u228, u229, u230, u231, u232, u233, u234, u235, u236, u237, u238, u239, u240, u241, u242, u243, u244, u245, u246, u247, u248, u249, u250, u251, u252, u253, u254, u255, u256, u257, u258, u259, u260, u261, u262, u263, u264, u265, u266, u267, u268, u269, u270, u271, u272, u273, u274, u275, u276, u277, u278, u279, u280, u281, u282, u283, u284, u285, u286, u287, u288, u289, u290, u291, u292, u293, u294, u295, u296, u297, u298, u299, u300, u301, u302, u303, u304, u305, u306, u307, u308, u309, u310, u311, u312, u313, u314, u315, u316, u317, u318, u319, u320, u321, u322, u323, u324, u325, u326, u327, u328, u329, u330, u331, u332], []⟩ W := by
  have HK := Aside0.mk hK
  have HQ := Aside0.mk hQ
  have HV := Aside0.mk hV
  have HL := Aside0.mk hl
  have HNE := Aside0.mk hne
  have Ht0 := Aside0.mk ht0
  have Ht1 := Aside0.mk ht1
  obtain ⟨x, hx⟩ : ∃ x, x = Ms.getD t0.toNat 0 := ⟨_, rfl⟩
  obtain ⟨y, hy⟩ : ∃ y, y = Ms.getD t1.toNat 0 := ⟨_, rfl⟩
  have hx0 : W.cell? ⟨gm, (t0).toNat, none⟩ = some (.int .u32 x) := by rw [hx]; exact hm _ (by omega)
  have hx1 : W.cell? ⟨gm, (t1).toNat, none⟩ = some (.int .u32 y) := by rw [hy]; exact hm _ (by omega)
  have HX := Aside0.mk (And.intro hx hy)
  have p0 := eq_true h00
  have q0 := eq_true h01
  have p1 := eq_true h10
  have q1 := eq_true h11
  have pa := eq_true (show 12 < P.size by omega)
  have qa := eq_true (show ((12 : Int) < (P.size : Int)) by omega)
  have pb := eq_true (show 13 < P.size by omega)
  have qb := eq_true (show ((13 : Int) < (P.size : Int)) by omega)
  have ra : ∀ h : 12 < P.size, (((P[12]'h).toNat : Nat) : Int) = bt P 12 := bt_at P 12
  have rb : ∀ h : 13 < P.size, (((P[13]'h).toNat : Nat) : Int) = bt P 13 := bt_at P 13
  clear hP hm hK hQ hV hl hne ht0 ht1 hx hy h00 h01 h10 h11
  conv => arg 2; whnf
  refine start_ (n := 14) (S := fun w' => w'.cell? ⟨gm, (t0).toNat, none⟩ = some (.int .u32 x) ∧ w'.cell? ⟨gm, (t1).toNat, none⟩ = some (.int .u32 y)) (ds := []) #[false, false, false, false, false, false, false, false, false, false, false, false, false, false] (by kernel_rfl) rfl rfl ⟨hx0, hx1⟩ (fun hHeld => ?_); refine with_tabW kt39 kb39 (fun HT_ HW_ => ?_)
  have HVd := Aside0.mk HV.out.drew
  clear hx0 hx1
  obtain ⟨wd, hwd⟩ : ∃ W', W' = W.drew := ⟨_, rfl⟩
  rw [← hwd] at HVd hHeld ⊢
  have HWD := Aside0.mk hwd
  clear hwd
  refine pure_ (i := 0) (N := some 248) (v := ?_) (a' := ?_) (lbKMix 14 1) rfl rfl (any_of HT_.out (by kernel_rfl)) (fun _ _ _ h => HQ.out _ _ _ _ h rfl) (Or.inl ⟨by rfl, ?_⟩) ?_ ?_
  rotate_left
  · intro w'
    go_simp
    with_reducible rfl
  rotate_left
  · simp only [Act.put, List.setIfInBounds_toArray, List.set_cons_zero, List.set_cons_succ, i64_w, i32_w]
    rfl
  refine pure_ (i := 1) (N := some 249) (v := ?_) (a' := ?_) (lbKMix 14 3) rfl rfl (any_of HT_.out (by kernel_rfl)) (fun _ _ _ h => HQ.out _ _ _ _ h rfl) (Or.inl ⟨by rfl, ?_⟩) ?_ ?_
  rotate_left
  · intro w'
    go_simp
    with_reducible rfl
  rotate_left
  · simp only [Act.put, List.setIfInBounds_toArray, List.set_cons_zero, List.set_cons_succ, i64_w, i32_w]
    rfl
  refine pure_ (i := 2) (N := some 250) (v := ?_) (a' := ?_) (lbKMix 14 7) rfl rfl (any_of HT_.out (by kernel_rfl)) (fun _ _ _ h => HQ.out _ _ _ _ h rfl) (Or.inl ⟨by rfl, ?_⟩) ?_ ?_
  rotate_left
  · intro w'
    go_simp
    with_reducible rfl
  rotate_left
  · simp only [Act.put, List.setIfInBounds_toArray, List.set_cons_zero, List.set_cons_succ, i64_w, i32_w]
    rfl
  refine pure_ (i := 7) (N := some 255) (v := ?_) (a' := ?_) (lbKMix 14 135) rfl rfl (any_of HT_.out (by kernel_rfl)) (fun _ _ _ h => HQ.out _ _ _ _ h rfl) (Or.inl ⟨by rfl, ?_⟩) ?_ ?_
  rotate_left
  · intro w'
    go_simp
    with_reducible rfl
  rotate_left
  · simp only [Act.put, List.setIfInBounds_toArray, List.set_cons_zero, List.set_cons_succ, i64_w, i32_w]
    rfl
  refine pure_ (i := 8) (N := some 256) (v := ?_) (a' := ?_) (lbKMix 14 391) rfl rfl (any_of HT_.out (by kernel_rfl)) (fun _ _ _ h => HQ.out _ _ _ _ h rfl) (Or.inl ⟨by rfl, ?_⟩) ?_ ?_
  rotate_left
  · intro w'
    go_simp
    with_reducible rfl
  rotate_left
  · simp only [Act.put, List.setIfInBounds_toArray, List.set_cons_zero, List.set_cons_succ, i64_w, i32_w]
    rfl
  refine take_ (i := 3) (N := some 251) (v := ?_) (a' := ?_) (lbKMix 14 399) rfl rfl (take_ofW HT_.out HW_.out (by kernel_rfl)) (fun _ _ _ h => HQ.out _ _ _ _ h rfl) (Or.inl ⟨by rfl, ?_⟩) hHeld ?_ ?_
  rotate_left
  · rintro w' ⟨s0, s1⟩
    go_simp
    with_reducible rfl
  rotate_left
  · simp only [Act.put, List.setIfInBounds_toArray, List.set_cons_zero, List.set_cons_succ, i64_w, i32_w]
    rfl
  refine take_ (i := 9) (N := some 257) (v := ?_) (a' := ?_) (lbKMix 14 911) rfl rfl (take_ofW HT_.out HW_.out (by kernel_rfl)) (fun _ _ _ h => HQ.out _ _ _ _ h rfl) (Or.inl ⟨by rfl, ?_⟩) hHeld ?_ ?_
  rotate_left
  · rintro w' ⟨s0, s1⟩
    go_simp
    with_reducible rfl
  rotate_left
  · simp only [Act.put, List.setIfInBounds_toArray, List.set_cons_zero, List.set_cons_succ, i64_w, i32_w]
    rfl
  refine one_ (i := 4) (N := some 252) (lbKMix 14 927) rfl rfl (one_of HT_.out (by kernel_rfl)) (by decide) (fun K hK => ?_)
  refine goes_ Tryd.func60 (by kernel_rfl) rfl #[.int .u8 (bt P 12)] (by rfl) rfl rfl (by (try simp only [List.map_toArray, List.map_cons, List.map_nil]); first | done | rfl) ?_
  with_reducible refine (hamperref05_place.calls (bt P 12) t0 _ Ht0.out).mono ?_
  rintro e w' ⟨rfl, ⟨n0, rfl⟩⟩
  refine ⟨_, rfl, ?_⟩
  refine hK.out _ _ ⟨hHeld.1, hHeld.2⟩ (fun hHeld => ?_)
  clear hK K
  refine norm_ (a' := ?_) ?_ ?_
  rotate_left
  · show Act.put _ (some 252) _ = _
    simp only [Act.put, List.setIfInBounds_toArray, List.set_cons_zero, List.set_cons_succ, i64_w, i32_w]
    rfl
  refine pure_ (i := 5) (N := some 253) (v := ?_) (a' := ?_) (lbKMix 14 959) rfl rfl (any_of HT_.out (by kernel_rfl)) (fun _ _ _ h => HQ.out _ _ _ _ h rfl) (Or.inl ⟨by rfl, ?_⟩) ?_ ?_
  rotate_left
  · intro w'
    go_simp
    with_reducible rfl
  rotate_left
  · simp only [Act.put, List.setIfInBounds_toArray, List.set_cons_zero, List.set_cons_succ, i64_w, i32_w]
    rfl
  refine take_ (i := 6) (N := some 254) (v := ?_) (a' := ?_) (lbKMix 14 1023) rfl rfl (take_ofW HT_.out HW_.out (by kernel_rfl)) (fun _ _ _ h => HQ.out _ _ _ _ h rfl) (Or.inl ⟨by rfl, ?_⟩) hHeld ?_ ?_
  rotate_left
  · rintro w' ⟨s0, s1⟩
    go_simp
    with_reducible rfl
  rotate_left
  · simp only [Act.put, List.setIfInBounds_toArray, List.set_cons_zero, List.set_cons_succ, i64_w, i32_w]
    rfl
  refine one_ (i := 10) (N := some 258) (lbKMix 14 2047) rfl rfl (one_of HT_.out (by kernel_rfl)) (by decide) (fun K hK => ?_)
  refine goes_ Tryd.func60 (by kernel_rfl) rfl #[.int .u8 (bt P 13)] (by rfl) rfl rfl (by (try simp only [List.map_toArray, List.map_cons, List.map_nil]); first | done | rfl) ?_
  with_reducible refine (hamperref05_place.calls (bt P 13) t1 _ Ht1.out).mono ?_
  rintro e w' ⟨rfl, ⟨n1, rfl⟩⟩
  refine ⟨_, rfl, ?_⟩
  refine hK.out _ _ ⟨hHeld.1, hHeld.2⟩ (fun hHeld => ?_)
  clear hK K
  refine norm_ (a' := ?_) ?_ ?_
  rotate_left
  · show Act.put _ (some 258) _ = _
    simp only [Act.put, List.setIfInBounds_toArray, List.set_cons_zero, List.set_cons_succ, i64_w, i32_w]
    rfl
  refine pure_ (i := 11) (N := some 259) (v := ?_) (a' := ?_) (lbKMix 14 4095) rfl rfl (any_of HT_.out (by kernel_rfl)) (fun _ _ _ h => HQ.out _ _ _ _ h rfl) (Or.inl ⟨by rfl, ?_⟩) ?_ ?_
  rotate_left
  · intro w'
    go_simp
    with_reducible rfl
  rotate_left
  · simp only [Act.put, List.setIfInBounds_toArray, List.set_cons_zero, List.set_cons_succ, i64_w, i32_w]
    rfl
  refine take_ (i := 12) (N := some 260) (v := ?_) (a' := ?_) (lbKMix 14 8191) rfl rfl (take_ofW HT_.out HW_.out (by kernel_rfl)) (fun _ _ _ h => HQ.out _ _ _ _ h rfl) (Or.inl ⟨by rfl, ?_⟩) hHeld ?_ ?_
  rotate_left
  · rintro w' ⟨s0, s1⟩
    go_simp
    with_reducible rfl
  rotate_left
  · simp only [Act.put, List.setIfInBounds_toArray, List.set_cons_zero, List.set_cons_succ, i64_w, i32_w]
    rfl
  refine one_ (i := 13) (N := some 261) (lbKMix 14 16383) rfl rfl (one_of HT_.out (by kernel_rfl)) (by decide) (fun K hK => ?_)
  refine goes_ Tryd.func59 (by kernel_rfl) rfl #[.slice (some ⟨gv, 0, none⟩) 16 cv, .int .i64 2, .int .i64 7, .int .i64 8, .int .i64 13, .int .u32 x, .int .u32 y] (by rfl) rfl rfl (by (try simp only [List.map_toArray, List.map_cons, List.map_nil]); first | done | rfl) ?_
  have hc := mix_calls gv cv V 2 7 8 13 x y ((wd.drewN n0).drewN n1) ((HVd.out.drewN n0).drewN n1) HL.out (by decide) (by decide) (by decide) (by decide) (by decide) (by decide) (by decide) (by decide) (by decide) (by decide)
  refine Calls.mono (show Calls _ _ _ _ _ from hc) ?_
  rintro e w5 ⟨rfl, hv, hk⟩
  refine ⟨_, rfl, ?_⟩
  have hs0 := Bk.keep_cell hk hHeld.1 HNE.out
  have hs1 := Bk.keep_cell hk hHeld.2 HNE.out
  have HV5 := Aside0.mk hv
  have HK5 := Aside0.mk hk
  clear hv hk hc
  refine hK.out _ _ ⟨hs0, hs1⟩ (fun hHeld => ?_)
  clear hK K
  refine norm_ (a' := ?_) ?_ ?_
  rotate_left
  · show Act.put _ (some 261) _ = _
    simp only [Act.put, List.setIfInBounds_toArray, List.set_cons_zero, List.set_cons_succ, i64_w, i32_w]
    rfl
  refine done_ (done_of HT_.out (by kernel_rfl)) ?_
  go_wp2_with fail
  refine HK.out _ _ _ _ _ _ _ _ _ _ _ _ _ _ _ ?_ ?_
  · rw [← HX.out.1, ← HX.out.2]
    exact HV5.out
  · have hk := HK5.out
    rw [HWD.out] at hk
    exact ⟨hk.size, hk.block, hk.os, hk.tape, hk.output⟩
set_option maxHeartbeats 8000000 in
set_option maxRecDepth 1000000 in
theorem m_mix7 {u0 u1 u2 u3 u4 u5 u6 u7 u8 u9 u10 u11 u12 u14 u16 u17 u19 u20 u21 u22 u23 u24 u25 u26 u27 u28 u29 u30 u31 u32 u33 u34 u35 u36 u37 u38 u39 u40 u41 u42 u43 u44 u45 u46 u47 u48 u49 u50 u51 u52 u53 u54 u55 u56 u57 u58 u59 u60 u61 u62 u63 u64 u65 u66 u67 u68 u69 u70 u71 u72 u73 u74 u75 u76 u77 u78 u79 u80 u81 u82 u83 u84 u85 u86 u87 u88 u89 u90 u91 u92 u93 u94 u95 u96 u97 u98 u99 u100 u101 u102 u103 u104 u105 u106 u107 u108 u109 u110 u111 u112 u113 u114 u115 u116 u117 u118 u119 u120 u121 u122 u123 u124 u125 u126 u127 u128 u129 u130 u131 u132 u133 u134 u135 u136 u137 u138 u139 u140 u141 u142 u143 u144 u145 u146 u147 u148 u149 u150 u151 u152 u153 u154 u155 u156 u157 u158 u159 u160 u161 u162 u163 u164 u165 u166 u167 u168 u169 u170 u171 u172 u173 u174 u175 u176 u177 u178 u179 u180 u181 u182 u183 u184 u185 u186 u187 u188 u189 u190 u191 u192 u193 u194 u195 u196 u197 u198 u199 u200 u201 u202 u203 u204 u205 u206 u207 u208 u209 u210 u211 u212 u213 u214 u215 u216 u217 u218 u219 u220 u221 u222 u223 u224 u225 u226 u227 u228 u229 u230 u231 u232 u233 u234 u235 u236 u237 u238 u239 u240 u241 u242 u243 u244 u245 u246 u247 u248 u249 u250 u251 u252 u253 u254 u255 u256 u257 u258 u259 u260 u261 u262 u263 u264 u265 u266 u267 u268 u269 u270 u271 u272 u273 u274 u275 u276 u277 u278 u279 u280 u281 u282 u283 u284 u285 u286 u287 u288 u289 u290 u291 u292 u293 u294 u295 u296 u297 u298 u299 u300 u301 u302 u303 u304 u305 u306 u307 u308 u309 u310 u311 u312 u313 u314 u315 u316 u317 u318 u319 u320 u321 u322 u323 u324 u325 u326 u327 u328 u329 u330 u331 u332 : Value} (gv cv gm cm : Nat) (P : ByteArray) (V Ms : List Int) (t0 t1 : Int) (W : World) (hP : P.size = 16) (ht0 : hamperref05_place.f (bt P 14) = some t0) (ht1 : hamperref05_place.f (bt P 15) = some t1) (h00 : 0 ≤ t0) (h01 : t0 < 16) (h10 : 0 ≤ t1) (h11 : t1 < 16)
    (hm : ∀ j, j < 16 → W.cell? ⟨gm, j, none⟩ = some (.int .u32 (Ms.getD j 0))) (hne : gm ≠ gv) (hl : V.length = 16) (hV : VAt W gv V) {Q : Exit → Act → World → Prop} (hQ : ∀ c a a' w, Q (Exit.panic c) a w → a.defers = a'.defers → Q (Exit.panic c) a' w)
    (hK : ∀ (x262 x263 x264 x265 x266 x267 x268 x269 x270 x271 x272 x273 x274 x275 : Value) (w' : World), VAt w' gv (mixL V 3 4 9 14 (Ms.getD t0.toNat 0) (Ms.getD t1.toNat 0)) → Bk.KeepBut W w' gv none → Q Exit.normal ⟨#[u0, u1, u2, u3, u4, u5, u6, u7, u8, u9, u10, u11, u12, .slice (some ⟨gm, 0, none⟩) 16 cm, u14, .slice (some ⟨gv, 0, none⟩) 16 cv, u16, u17, .string P, u19, u20, u21, u22, u23, u24, u25, u26, u27, u28, u29, u30, u31, u32, u33, u34, u35, u36, u37, u38, u39, u40, u41, u42, u43, u44, u45, u46, u47, u48, u49, u50, u51, u52, u53, u54, u55, u56, u57, u58, u59, u60, u61, u62, u63, u64, u65, u66, u67, u68, u69, u70, u71, u72, u73, u74, u75, u76, u77, u78, u79, u80, u81, u82, u83, u84, u85, u86, u87, u88, u89, u90, u91, u92, u93, u94, u95, u96, u97, u98, u99, u100, u101, u102, u103, u104, u105, u106, u107, u108, u109, u110, u111, u112, u113, u114, u115, u116, u117, u118, u119, u120, u121, u122, u123, u124, u125, u126, u127, u128, u129, u130, u131, u132, u133, u134, u135, u136, u137, u138, u139, u140, u141, u142, u143, u144, u145, u146, u147, u148, u149, u150, u151, u152, u153, u154, u155, u156, u157, u158, u159, u160, u161, u162, u163, u164, u165, u166, u167, u168, u169, u170, u171, u172, u173, u174, u175, u176, u177, u178, u179, u180, u181, u182, u183, u184, u185, u186, u187, u188, u189, u190, u191, u192, u193, u194, u195, u196, u197, u198, u199, u200, u201, u202, u203, u204, u205, u206, u207, u208, u209, u210, u211, u212, u213, u214, u215, u216, u217, u218, u219, u220, u221, u222, u223, u224, u225, u226, u227, u228, u229, u230, u231, u232, u233, u234, u235, u236, u237, u238, u239, u240, u241, u242, u243, u244, u245, u246, u247, u248, u249, u250, u251, u252, u253, u254, u255, u256, u257, u258, u259, u260, u261, x262, x263, x264, x265, x266, x267, x268, x269, x270, x271, x272, x273, x274, x275, u276, u277, u278, u279, u280, u281, u282, u283, u284, u285, u286, u287, u288, u289, u290, u291, u292, u293, u294, u295, u296, u297, u298, u299, u300, u301, u302, u303, u304, u305, u306, u307, u308, u309, u310, u311, u312, u313, u314, u315, u316, u317, u318, u319, u320, u321, u322, u323, u324, u325, u326, u327, u328, u329, u330, u331, u332], []⟩ w') :
    Code.wp Tryd.prog (kReg 40) Q ⟨#[u0, u1, u2, u3, u4, u5, u6, u7, u8, u9, u10, u11, u12, .slice (some ⟨gm, 0, none⟩) 16 cm, u14, .slice (some ⟨gv, 0, none⟩) 16 cv, u16, u17, .string P, u19, u20, u21, u22, u23, u24, u25, u26, u27, u28, u29, u30, u31, u32, u33, u34, u35, u36, u37, u38, u39, u40, u41, u42, u43, u44, u45, u46, u47, u48, u49, u50, u51, u52, u53, u54, u55, u56, u57, u58, u59, u60, u61, u62, u63, u64, u65, u66, u67, u68, u69, u70, u71, u72, u73, u74, u75, u76, u77, u78, u79, u80, u81, u82, u83, u84, u85, u86, u87, u88, u89, u90, u91, u92, u93, u94, u95, u96, u97, u98, u99, u100, u101, u102, u103, u104, u105, u106, u107, u108, u109, u110, u111, u112, u113, u114, u115, u116, u117, u118, u119, u120, u121, u122, u123, u124, u125, u126, u127, u128, u129, u130, u131, u132, u133, u134, u135, u136, u137, u138, u139, u140, u141, u142, u143, u144, u145, u146, u147, u148, u149, u150, u151, u152, u153, u154, u155, u156, u157, u158, u159, u160, u161, u162, u163, u164, u165, u166, u167, u168, u169, u170, u171, u172, u173, u174, u175, u176, u177, u178, u179, u180, u181, u182, u183, u184, u185, u186, u187, u188, u189, u190, u191, u192, u193, u194, u195, u196, u197, u198, u199, u200, u201, u202, u203, u204, u205, u206, u207, u208, u209, u210, u211, u212, u213, u214, u215, u216, u217, u218, u219, u220, u221, u222, u223, u224, u225, u226, u227, u228, u229, u230, u231, u232, u233, u234, u235, u236, u237, u238, u239, u240, u241, u242, u243, u244, u245, u246, u247, u248, u249, u250, u251, u252, u253, u254, u255, u256, u257, u258, u259, u260, u261, u262, u263, u264, u265, u266, u267, u268, u269, u270, u271, u272, u273, u274, u275, u276, u277, u278, u279, u280, u281, u282, u283, u284, u285, u286, u287, u288, u289, u290, u291, u292, u293, u294, u295, u296, u297, u298, u299, u300, u301, u302, u303, u304, u305, u306, u307, u308, u309, u310, u311, u312, u313, u314, u315, u316, u317, u318, u319, u320, u321, u322, u323, u324, u325, u326, u327, u328, u329, u330, u331, u332], []⟩ W := by
  have HK := Aside0.mk hK
  have HQ := Aside0.mk hQ
  have HV := Aside0.mk hV
  have HL := Aside0.mk hl
  have HNE := Aside0.mk hne
  have Ht0 := Aside0.mk ht0
  have Ht1 := Aside0.mk ht1
  obtain ⟨x, hx⟩ : ∃ x, x = Ms.getD t0.toNat 0 := ⟨_, rfl⟩
  obtain ⟨y, hy⟩ : ∃ y, y = Ms.getD t1.toNat 0 := ⟨_, rfl⟩
  have hx0 : W.cell? ⟨gm, (t0).toNat, none⟩ = some (.int .u32 x) := by rw [hx]; exact hm _ (by omega)
  have hx1 : W.cell? ⟨gm, (t1).toNat, none⟩ = some (.int .u32 y) := by rw [hy]; exact hm _ (by omega)
  have HX := Aside0.mk (And.intro hx hy)
  have p0 := eq_true h00
  have q0 := eq_true h01
  have p1 := eq_true h10
  have q1 := eq_true h11
  have pa := eq_true (show 14 < P.size by omega)
  have qa := eq_true (show ((14 : Int) < (P.size : Int)) by omega)
  have pb := eq_true (show 15 < P.size by omega)
  have qb := eq_true (show ((15 : Int) < (P.size : Int)) by omega)
  have ra : ∀ h : 14 < P.size, (((P[14]'h).toNat : Nat) : Int) = bt P 14 := bt_at P 14
  have rb : ∀ h : 15 < P.size, (((P[15]'h).toNat : Nat) : Int) = bt P 15 := bt_at P 15
  clear hP hm hK hQ hV hl hne ht0 ht1 hx hy h00 h01 h10 h11
  conv => arg 2; whnf
  refine start_ (n := 14) (S := fun w' => w'.cell? ⟨gm, (t0).toNat, none⟩ = some (.int .u32 x) ∧ w'.cell? ⟨gm, (t1).toNat, none⟩ = some (.int .u32 y)) (ds := []) #[false, false, false, false, false, false, false, false, false, false, false, false, false, false] (by kernel_rfl) rfl rfl ⟨hx0, hx1⟩ (fun hHeld => ?_); refine with_tabW kt40 kb40 (fun HT_ HW_ => ?_)
  have HVd := Aside0.mk HV.out.drew
  clear hx0 hx1
  obtain ⟨wd, hwd⟩ : ∃ W', W' = W.drew := ⟨_, rfl⟩
  rw [← hwd] at HVd hHeld ⊢
  have HWD := Aside0.mk hwd
  clear hwd
  refine pure_ (i := 0) (N := some 262) (v := ?_) (a' := ?_) (lbKMix 14 1) rfl rfl (any_of HT_.out (by kernel_rfl)) (fun _ _ _ h => HQ.out _ _ _ _ h rfl) (Or.inl ⟨by rfl, ?_⟩) ?_ ?_
  rotate_left
  · intro w'
    go_simp
    with_reducible rfl
  rotate_left
  · simp only [Act.put, List.setIfInBounds_toArray, List.set_cons_zero, List.set_cons_succ, i64_w, i32_w]
    rfl
  refine pure_ (i := 1) (N := some 263) (v := ?_) (a' := ?_) (lbKMix 14 3) rfl rfl (any_of HT_.out (by kernel_rfl)) (fun _ _ _ h => HQ.out _ _ _ _ h rfl) (Or.inl ⟨by rfl, ?_⟩) ?_ ?_
  rotate_left
  · intro w'
    go_simp
    with_reducible rfl
  rotate_left
  · simp only [Act.put, List.setIfInBounds_toArray, List.set_cons_zero, List.set_cons_succ, i64_w, i32_w]
    rfl
  refine pure_ (i := 2) (N := some 264) (v := ?_) (a' := ?_) (lbKMix 14 7) rfl rfl (any_of HT_.out (by kernel_rfl)) (fun _ _ _ h => HQ.out _ _ _ _ h rfl) (Or.inl ⟨by rfl, ?_⟩) ?_ ?_
  rotate_left
  · intro w'
    go_simp
    with_reducible rfl
  rotate_left
  · simp only [Act.put, List.setIfInBounds_toArray, List.set_cons_zero, List.set_cons_succ, i64_w, i32_w]
    rfl
  refine pure_ (i := 7) (N := some 269) (v := ?_) (a' := ?_) (lbKMix 14 135) rfl rfl (any_of HT_.out (by kernel_rfl)) (fun _ _ _ h => HQ.out _ _ _ _ h rfl) (Or.inl ⟨by rfl, ?_⟩) ?_ ?_
  rotate_left
  · intro w'
    go_simp
    with_reducible rfl
  rotate_left
  · simp only [Act.put, List.setIfInBounds_toArray, List.set_cons_zero, List.set_cons_succ, i64_w, i32_w]
    rfl
  refine pure_ (i := 8) (N := some 270) (v := ?_) (a' := ?_) (lbKMix 14 391) rfl rfl (any_of HT_.out (by kernel_rfl)) (fun _ _ _ h => HQ.out _ _ _ _ h rfl) (Or.inl ⟨by rfl, ?_⟩) ?_ ?_
  rotate_left
  · intro w'
    go_simp
    with_reducible rfl
  rotate_left
  · simp only [Act.put, List.setIfInBounds_toArray, List.set_cons_zero, List.set_cons_succ, i64_w, i32_w]
    rfl
  refine take_ (i := 3) (N := some 265) (v := ?_) (a' := ?_) (lbKMix 14 399) rfl rfl (take_ofW HT_.out HW_.out (by kernel_rfl)) (fun _ _ _ h => HQ.out _ _ _ _ h rfl) (Or.inl ⟨by rfl, ?_⟩) hHeld ?_ ?_
  rotate_left
  · rintro w' ⟨s0, s1⟩
    go_simp
    with_reducible rfl
  rotate_left
  · simp only [Act.put, List.setIfInBounds_toArray, List.set_cons_zero, List.set_cons_succ, i64_w, i32_w]
    rfl
  refine take_ (i := 9) (N := some 271) (v := ?_) (a' := ?_) (lbKMix 14 911) rfl rfl (take_ofW HT_.out HW_.out (by kernel_rfl)) (fun _ _ _ h => HQ.out _ _ _ _ h rfl) (Or.inl ⟨by rfl, ?_⟩) hHeld ?_ ?_
  rotate_left
  · rintro w' ⟨s0, s1⟩
    go_simp
    with_reducible rfl
  rotate_left
  · simp only [Act.put, List.setIfInBounds_toArray, List.set_cons_zero, List.set_cons_succ, i64_w, i32_w]
    rfl
  refine one_ (i := 4) (N := some 266) (lbKMix 14 927) rfl rfl (one_of HT_.out (by kernel_rfl)) (by decide) (fun K hK => ?_)
  refine goes_ Tryd.func60 (by kernel_rfl) rfl #[.int .u8 (bt P 14)] (by rfl) rfl rfl (by (try simp only [List.map_toArray, List.map_cons, List.map_nil]); first | done | rfl) ?_
  with_reducible refine (hamperref05_place.calls (bt P 14) t0 _ Ht0.out).mono ?_
  rintro e w' ⟨rfl, ⟨n0, rfl⟩⟩
  refine ⟨_, rfl, ?_⟩
  refine hK.out _ _ ⟨hHeld.1, hHeld.2⟩ (fun hHeld => ?_)
  clear hK K
  refine norm_ (a' := ?_) ?_ ?_
  rotate_left
  · show Act.put _ (some 266) _ = _
    simp only [Act.put, List.setIfInBounds_toArray, List.set_cons_zero, List.set_cons_succ, i64_w, i32_w]
    rfl
  refine pure_ (i := 5) (N := some 267) (v := ?_) (a' := ?_) (lbKMix 14 959) rfl rfl (any_of HT_.out (by kernel_rfl)) (fun _ _ _ h => HQ.out _ _ _ _ h rfl) (Or.inl ⟨by rfl, ?_⟩) ?_ ?_
  rotate_left
  · intro w'
    go_simp
    with_reducible rfl
  rotate_left
  · simp only [Act.put, List.setIfInBounds_toArray, List.set_cons_zero, List.set_cons_succ, i64_w, i32_w]
    rfl
  refine take_ (i := 6) (N := some 268) (v := ?_) (a' := ?_) (lbKMix 14 1023) rfl rfl (take_ofW HT_.out HW_.out (by kernel_rfl)) (fun _ _ _ h => HQ.out _ _ _ _ h rfl) (Or.inl ⟨by rfl, ?_⟩) hHeld ?_ ?_
  rotate_left
  · rintro w' ⟨s0, s1⟩
    go_simp
    with_reducible rfl
  rotate_left
  · simp only [Act.put, List.setIfInBounds_toArray, List.set_cons_zero, List.set_cons_succ, i64_w, i32_w]
    rfl
  refine one_ (i := 10) (N := some 272) (lbKMix 14 2047) rfl rfl (one_of HT_.out (by kernel_rfl)) (by decide) (fun K hK => ?_)
  refine goes_ Tryd.func60 (by kernel_rfl) rfl #[.int .u8 (bt P 15)] (by rfl) rfl rfl (by (try simp only [List.map_toArray, List.map_cons, List.map_nil]); first | done | rfl) ?_
  with_reducible refine (hamperref05_place.calls (bt P 15) t1 _ Ht1.out).mono ?_
  rintro e w' ⟨rfl, ⟨n1, rfl⟩⟩
  refine ⟨_, rfl, ?_⟩
  refine hK.out _ _ ⟨hHeld.1, hHeld.2⟩ (fun hHeld => ?_)
  clear hK K
  refine norm_ (a' := ?_) ?_ ?_
  rotate_left
  · show Act.put _ (some 272) _ = _
    simp only [Act.put, List.setIfInBounds_toArray, List.set_cons_zero, List.set_cons_succ, i64_w, i32_w]
    rfl
  refine pure_ (i := 11) (N := some 273) (v := ?_) (a' := ?_) (lbKMix 14 4095) rfl rfl (any_of HT_.out (by kernel_rfl)) (fun _ _ _ h => HQ.out _ _ _ _ h rfl) (Or.inl ⟨by rfl, ?_⟩) ?_ ?_
  rotate_left
  · intro w'
    go_simp
    with_reducible rfl
  rotate_left
  · simp only [Act.put, List.setIfInBounds_toArray, List.set_cons_zero, List.set_cons_succ, i64_w, i32_w]
    rfl
  refine take_ (i := 12) (N := some 274) (v := ?_) (a' := ?_) (lbKMix 14 8191) rfl rfl (take_ofW HT_.out HW_.out (by kernel_rfl)) (fun _ _ _ h => HQ.out _ _ _ _ h rfl) (Or.inl ⟨by rfl, ?_⟩) hHeld ?_ ?_
  rotate_left
  · rintro w' ⟨s0, s1⟩
    go_simp
    with_reducible rfl
  rotate_left
  · simp only [Act.put, List.setIfInBounds_toArray, List.set_cons_zero, List.set_cons_succ, i64_w, i32_w]
    rfl
  refine one_ (i := 13) (N := some 275) (lbKMix 14 16383) rfl rfl (one_of HT_.out (by kernel_rfl)) (by decide) (fun K hK => ?_)
  refine goes_ Tryd.func59 (by kernel_rfl) rfl #[.slice (some ⟨gv, 0, none⟩) 16 cv, .int .i64 3, .int .i64 4, .int .i64 9, .int .i64 14, .int .u32 x, .int .u32 y] (by rfl) rfl rfl (by (try simp only [List.map_toArray, List.map_cons, List.map_nil]); first | done | rfl) ?_
  have hc := mix_calls gv cv V 3 4 9 14 x y ((wd.drewN n0).drewN n1) ((HVd.out.drewN n0).drewN n1) HL.out (by decide) (by decide) (by decide) (by decide) (by decide) (by decide) (by decide) (by decide) (by decide) (by decide)
  refine Calls.mono (show Calls _ _ _ _ _ from hc) ?_
  rintro e w5 ⟨rfl, hv, hk⟩
  refine ⟨_, rfl, ?_⟩
  have hs0 := Bk.keep_cell hk hHeld.1 HNE.out
  have hs1 := Bk.keep_cell hk hHeld.2 HNE.out
  have HV5 := Aside0.mk hv
  have HK5 := Aside0.mk hk
  clear hv hk hc
  refine hK.out _ _ ⟨hs0, hs1⟩ (fun hHeld => ?_)
  clear hK K
  refine norm_ (a' := ?_) ?_ ?_
  rotate_left
  · show Act.put _ (some 275) _ = _
    simp only [Act.put, List.setIfInBounds_toArray, List.set_cons_zero, List.set_cons_succ, i64_w, i32_w]
    rfl
  refine done_ (done_of HT_.out (by kernel_rfl)) ?_
  go_wp2_with fail
  refine HK.out _ _ _ _ _ _ _ _ _ _ _ _ _ _ _ ?_ ?_
  · rw [← HX.out.1, ← HX.out.2]
    exact HV5.out
  · have hk := HK5.out
    rw [HWD.out] at hk
    exact ⟨hk.size, hk.block, hk.os, hk.tape, hk.output⟩
end Go.Proofs.YteplphpbpaojjaaDoor.Rf5
namespace Go.Proofs.YteplphpbpaojjaaDoor.Rf5
open Go.RowKit Go.Proofs.YteplphpbpaojjaaDoorW.PrintWords Go.Proofs.YteplphpbpaojjaaDoorW.PrintLast Go.Proofs.YteplphpbpaojjaaDoorW.PrintMore Go.Proofs.YteplphpbpaojjaaDoor.PRef
open Go.Proofs.YteplphpbpaojjaaDoor.Bk (firstsL initL keyL strL digest blakeKeyed compress wordsL wordAt veeL outL outB rowsL mixL finL)
set_option linter.unusedVariables false
set_option linter.unusedSimpArgs false
attribute [local go_sem] max2_int min2_int max_two min_two max_three min_three max_four min_four
open Go.Proofs.YteplphpbpaojjaaDoor.Bk (inner outer)
theorem place_row (r : Nat) (hr : r < 10) : ∀ j : Fin 16, (placesB.getD r ⟨#[]⟩).size = 16 ∧ hamperref05_place.f (bt (placesB.getD r ⟨#[]⟩) j.val) = some ((rowsL.getD r []).getD j.val 0) ∧ 0 ≤ (rowsL.getD r []).getD j.val 0 ∧ (rowsL.getD r []).getD j.val 0 < 16 := fun j => place_all ⟨r, hr⟩ j
set_option maxHeartbeats 8000000 in
set_option maxRecDepth 1000000 in
theorem m_rounds {u0 u1 u2 u3 u4 u5 u6 u7 u8 u9 u10 u11 u12 u14 u18 u19 u20 u21 u22 u23 u24 u25 u26 u27 u28 u29 u30 u31 u32 u33 u34 u35 u36 u37 u38 u39 u40 u41 u42 u43 u44 u45 u46 u47 u48 u49 u50 u51 u52 u53 u54 u55 u56 u57 u58 u59 u60 u61 u62 u63 u64 u65 u66 u67 u68 u69 u70 u71 u72 u73 u74 u75 u76 u77 u78 u79 u80 u81 u82 u83 u84 u85 u86 u87 u88 u89 u90 u91 u92 u93 u94 u95 u96 u97 u98 u99 u100 u101 u102 u103 u104 u105 u106 u107 u108 u109 u110 u111 u112 u113 u114 u115 u116 u117 u118 u119 u120 u121 u122 u123 u124 u125 u126 u127 u128 u129 u130 u131 u132 u133 u134 u135 u136 u137 u138 u139 u140 u141 u142 u143 u144 u145 u146 u147 u148 u149 u150 u151 u152 u153 u154 u155 u156 u157 u158 u159 u160 u161 u162 u163 u164 u165 u166 u167 u168 u169 u170 u171 u172 u173 u174 u175 u176 u177 u178 u179 u180 u181 u182 u183 u184 u185 u186 u187 u188 u189 u190 u191 u192 u193 u194 u195 u196 u197 u198 u199 u200 u201 u202 u203 u204 u205 u206 u207 u208 u209 u210 u211 u212 u213 u214 u215 u216 u217 u218 u219 u220 u221 u222 u223 u224 u225 u226 u227 u228 u229 u230 u231 u232 u233 u234 u235 u236 u237 u238 u239 u240 u241 u242 u243 u244 u245 u246 u247 u248 u249 u250 u251 u252 u253 u254 u255 u256 u257 u258 u259 u260 u261 u262 u263 u264 u265 u266 u267 u268 u269 u270 u271 u272 u273 u274 u275 u276 u277 u278 u279 u280 u281 u282 u283 u284 u285 u286 u287 u288 u289 u290 u291 u292 u293 u294 u295 u296 u297 u298 u299 u300 u301 u302 u303 u304 u305 u306 u307 u308 u309 u310 u311 u312 u313 u314 u315 u316 u317 u318 u319 u320 u321 u322 u323 u324 u325 u326 u327 u328 u329 u330 u331 u332 : Value} (gv cv gm cm gl cl : Nat) (V Ms : List Int) (W : World) (hm : ∀ j, j < 16 → W.cell? ⟨gm, j, none⟩ = some (.int .u32 (Ms.getD j 0))) (hp : ∀ j, j < 10 → W.cell? ⟨gl, j, none⟩ = some (.string (placesB.getD j ⟨#[]⟩))) (hne : gm ≠ gv) (hne2 : gl ≠ gv) (hl : V.length = 16) (hV : VAt W gv V)
    {K : Act → World → Prop} {Q : Exit → Act → World → Prop} (hQ : ∀ c a a' w, Q (Exit.panic c) a w → a.defers = a'.defers → Q (Exit.panic c) a' w)
    (hK : ∀ (x17 x18 x156 x157 x158 x159 x160 x161 x162 x163 x164 x165 x166 x167 x168 x169 x170 x171 x172 x173 x174 x175 x176 x177 x178 x179 x180 x181 x182 x183 x184 x185 x186 x187 x188 x189 x190 x191 x192 x193 x194 x195 x196 x197 x198 x199 x200 x201 x202 x203 x204 x205 x206 x207 x208 x209 x210 x211 x212 x213 x214 x215 x216 x217 x218 x219 x220 x221 x222 x223 x224 x225 x226 x227 x228 x229 x230 x231 x232 x233 x234 x235 x236 x237 x238 x239 x240 x241 x242 x243 x244 x245 x246 x247 x248 x249 x250 x251 x252 x253 x254 x255 x256 x257 x258 x259 x260 x261 x262 x263 x264 x265 x266 x267 x268 x269 x270 x271 x272 x273 x274 x275 : Value) (w' : World), VAt w' gv (outer Ms V 10) → Bk.KeepBut W w' gv none → K ⟨#[u0, u1, u2, u3, u4, u5, u6, u7, u8, u9, u10, u11, u12, .slice (some ⟨gm, 0, none⟩) 16 cm, u14, .slice (some ⟨gv, 0, none⟩) 16 cv, .slice (some ⟨gl, 0, none⟩) 10 cl, x17, x18, u19, u20, u21, u22, u23, u24, u25, u26, u27, u28, u29, u30, u31, u32, u33, u34, u35, u36, u37, u38, u39, u40, u41, u42, u43, u44, u45, u46, u47, u48, u49, u50, u51, u52, u53, u54, u55, u56, u57, u58, u59, u60, u61, u62, u63, u64, u65, u66, u67, u68, u69, u70, u71, u72, u73, u74, u75, u76, u77, u78, u79, u80, u81, u82, u83, u84, u85, u86, u87, u88, u89, u90, u91, u92, u93, u94, u95, u96, u97, u98, u99, u100, u101, u102, u103, u104, u105, u106, u107, u108, u109, u110, u111, u112, u113, u114, u115, u116, u117, u118, u119, u120, u121, u122, u123, u124, u125, u126, u127, u128, u129, u130, u131, u132, u133, u134, u135, u136, u137, u138, u139, u140, u141, u142, u143, u144, u145, u146, u147, u148, u149, u150, u151, u152, u153, u154, u155, x156, x157, x158, x159, x160, x161, x162, x163, x164, x165, x166, x167, x168, x169, x170, x171, x172, x173, x174, x175, x176, x177, x178, x179, x180, x181, x182, x183, x184, x185, x186, x187, x188, x189, x190, x191, x192, x193, x194, x195, x196, x197, x198, x199, x200, x201, x202, x203, x204, x205, x206, x207, x208, x209, x210, x211, x212, x213, x214, x215, x216, x217, x218, x219, x220, x221, x222, x223, x224, x225, x226, x227, x228, x229, x230, x231, x232, x233, x234, x235, x236, x237, x238, x239, x240, x241, x242, x243, x244, x245, x246, x247, x248, x249, x250, x251, x252, x253, x254, x255, x256, x257, x258, x259, x260, x261, x262, x263, x264, x265, x266, x267, x268, x269, x270, x271, x272, x273, x274, x275, u276, u277, u278, u279, u280, u281, u282, u283, u284, u285, u286, u287, u288, u289, u290, u291, u292, u293, u294, u295, u296, u297, u298, u299, u300, u301, u302, u303, u304, u305, u306, u307, u308, u309, u310, u311, u312, u313, u314, u315, u316, u317, u318, u319, u320, u321, u322, u323, u324, u325, u326, u327, u328, u329, u330, u331, u332], []⟩ w') :
    Code.wp Tryd.prog (kBlk 8) (Exit.then K Q) ⟨#[u0, u1, u2, u3, u4, u5, u6, u7, u8, u9, u10, u11, u12, .slice (some ⟨gm, 0, none⟩) 16 cm, u14, .slice (some ⟨gv, 0, none⟩) 16 cv, .slice (some ⟨gl, 0, none⟩) 10 cl, .int .i64 0, u18, u19, u20, u21, u22, u23, u24, u25, u26, u27, u28, u29, u30, u31, u32, u33, u34, u35, u36, u37, u38, u39, u40, u41, u42, u43, u44, u45, u46, u47, u48, u49, u50, u51, u52, u53, u54, u55, u56, u57, u58, u59, u60, u61, u62, u63, u64, u65, u66, u67, u68, u69, u70, u71, u72, u73, u74, u75, u76, u77, u78, u79, u80, u81, u82, u83, u84, u85, u86, u87, u88, u89, u90, u91, u92, u93, u94, u95, u96, u97, u98, u99, u100, u101, u102, u103, u104, u105, u106, u107, u108, u109, u110, u111, u112, u113, u114, u115, u116, u117, u118, u119, u120, u121, u122, u123, u124, u125, u126, u127, u128, u129, u130, u131, u132, u133, u134, u135, u136, u137, u138, u139, u140, u141, u142, u143, u144, u145, u146, u147, u148, u149, u150, u151, u152, u153, u154, u155, u156, u157, u158, u159, u160, u161, u162, u163, u164, u165, u166, u167, u168, u169, u170, u171, u172, u173, u174, u175, u176, u177, u178, u179, u180, u181, u182, u183, u184, u185, u186, u187, u188, u189, u190, u191, u192, u193, u194, u195, u196, u197, u198, u199, u200, u201, u202, u203, u204, u205, u206, u207, u208, u209, u210, u211, u212, u213, u214, u215, u216, u217, u218, u219, u220, u221, u222, u223, u224, u225, u226, u227, u228, u229, u230, u231, u232, u233, u234, u235, u236, u237, u238, u239, u240, u241, u242, u243, u244, u245, u246, u247, u248, u249, u250, u251, u252, u253, u254, u255, u256, u257, u258, u259, u260, u261, u262, u263, u264, u265, u266, u267, u268, u269, u270, u271, u272, u273, u274, u275, u276, u277, u278, u279, u280, u281, u282, u283, u284, u285, u286, u287, u288, u289, u290, u291, u292, u293, u294, u295, u296, u297, u298, u299, u300, u301, u302, u303, u304, u305, u306, u307, u308, u309, u310, u311, u312, u313, u314, u315, u316, u317, u318, u319, u320, u321, u322, u323, u324, u325, u326, u327, u328, u329, u330, u331, u332], []⟩ W := by
  have HK := Aside0.mk hK
  have HQ := Aside0.mk hQ
  have HC := Aside0.mk hm
  have HPL := Aside0.mk hp
  have HL := Aside0.mk hl
  have HNE := Aside0.mk hne
  have HNE2 := Aside0.mk hne2
  have H0 := Aside0.mk hV
  clear hK hQ hm hp hl hne hne2 hV
  conv => arg 2; whnf
  go_wp2_with fail
  go_loopw [17] (fun iv wr => ∃ k : Nat, k ≤ 10 ∧ iv = .int .i64 (k : Int) ∧ Aside0 (VAt wr gv (outer Ms V k) ∧ Bk.KeepBut W wr gv none)) (fun iv _ => 10 - (intOf iv).toNat)
  case atStart => exact ⟨0, Nat.zero_le _, rfl, Aside0.mk ⟨H0.out, Bk.KeepBut.refl _ _ _⟩⟩
  case round =>
    obtain ⟨k, hk, rfl, HV⟩ := hrel
    by_cases hlt : k < 10
    · obtain ⟨P, hP⟩ : ∃ P, P = placesB.getD k ⟨#[]⟩ := ⟨_, rfl⟩
      have hcp : wr.cell? ⟨gl, k, none⟩ = some (.string P) := by rw [hP]; exact Bk.keep_cell HV.out.2 (HPL.out k hlt) HNE2.out
      obtain ⟨R0, hR0⟩ : ∃ R, R = rowsL.getD k [] := ⟨_, rfl⟩
      have hpl := place_row k hlt
      rw [← hP, ← hR0] at hpl
      have PL := Aside0.mk hpl
      have HP := Aside0.mk (hpl ⟨0, by decide⟩).1
      have HR0 := Aside0.mk hR0
      obtain ⟨V0, hV0⟩ : ∃ L, L = outer Ms V k := ⟨_, rfl⟩
      have HL0 := Aside0.mk (show V0.length = 16 by rw [hV0, Bk.outer_len, HL.out])
      have HVK := Aside0.mk hV0
      have HM0 := Aside0.mk (show (VAt wr gv V0 ∧ V0.length = 16) ∧ Bk.KeepBut W wr gv none from ⟨⟨by rw [hV0]; exact HV.out.1, HL0.out⟩, HV.out.2⟩)
      clear hP hR0 hpl hV0 HV
      have HV0 := Aside0.mk (show V0 = Bk.inner Ms R0 V0 0 from rfl)
      go_upto_region 33 with fail
      clear hcp
      go_upto_region 33 with fail
      refine m_mix0 gv cv gm cm P V0 Ms _ _ _ HP.out (PL.out ⟨0, by decide⟩).2.1 (PL.out ⟨1, by decide⟩).2.1 (PL.out ⟨0, by decide⟩).2.2.1 (PL.out ⟨0, by decide⟩).2.2.2 (PL.out ⟨1, by decide⟩).2.2.1 (PL.out ⟨1, by decide⟩).2.2.2 (fun j hj => Bk.keep_cell HM0.out.2 (HC.out j hj) HNE.out) HNE.out HM0.out.1.2 HM0.out.1.1 (fun c a a' w h e => HQ.out c a a' w h e) ?_
      intro y164 y165 y166 y167 y168 y169 y170 y171 y172 y173 y174 y175 y176 y177 w1 hv hk
      obtain ⟨V1, hV1⟩ : ∃ L, L = Bk.inner Ms R0 V0 1 := ⟨_, rfl⟩
      have HV1 := Aside0.mk hV1
      have HM1 := Aside0.mk (show (VAt w1 gv V1 ∧ V1.length = 16) ∧ Bk.KeepBut W w1 gv none from ⟨⟨by rw [hV1, show Bk.inner Ms R0 V0 1 = mixL (Bk.inner Ms R0 V0 0) 0 4 8 12 (Ms.getD (R0.getD 0 0).toNat 0) (Ms.getD (R0.getD 1 0).toNat 0) from rfl, ← HV0.out]; exact hv, by rw [hV1, Bk.inner_len, HL0.out]⟩, HM0.out.2.trans hk⟩)
      clear hv hk hV1
      go_upto_region 34 with fail
      refine m_mix1 gv cv gm cm P V1 Ms _ _ _ HP.out (PL.out ⟨2, by decide⟩).2.1 (PL.out ⟨3, by decide⟩).2.1 (PL.out ⟨2, by decide⟩).2.2.1 (PL.out ⟨2, by decide⟩).2.2.2 (PL.out ⟨3, by decide⟩).2.2.1 (PL.out ⟨3, by decide⟩).2.2.2 (fun j hj => Bk.keep_cell HM1.out.2 (HC.out j hj) HNE.out) HNE.out HM1.out.1.2 HM1.out.1.1 (fun c a a' w h e => HQ.out c a a' w h e) ?_
      intro y178 y179 y180 y181 y182 y183 y184 y185 y186 y187 y188 y189 y190 y191 w2 hv hk
      obtain ⟨V2, hV2⟩ : ∃ L, L = Bk.inner Ms R0 V0 2 := ⟨_, rfl⟩
      have HV2 := Aside0.mk hV2
      have HM2 := Aside0.mk (show (VAt w2 gv V2 ∧ V2.length = 16) ∧ Bk.KeepBut W w2 gv none from ⟨⟨by rw [hV2, show Bk.inner Ms R0 V0 2 = mixL (Bk.inner Ms R0 V0 1) 1 5 9 13 (Ms.getD (R0.getD 2 0).toNat 0) (Ms.getD (R0.getD 3 0).toNat 0) from rfl, ← HV1.out]; exact hv, by rw [hV2, Bk.inner_len, HL0.out]⟩, HM1.out.2.trans hk⟩)
      clear hv hk hV2
      go_upto_region 35 with fail
      refine m_mix2 gv cv gm cm P V2 Ms _ _ _ HP.out (PL.out ⟨4, by decide⟩).2.1 (PL.out ⟨5, by decide⟩).2.1 (PL.out ⟨4, by decide⟩).2.2.1 (PL.out ⟨4, by decide⟩).2.2.2 (PL.out ⟨5, by decide⟩).2.2.1 (PL.out ⟨5, by decide⟩).2.2.2 (fun j hj => Bk.keep_cell HM2.out.2 (HC.out j hj) HNE.out) HNE.out HM2.out.1.2 HM2.out.1.1 (fun c a a' w h e => HQ.out c a a' w h e) ?_
      intro y192 y193 y194 y195 y196 y197 y198 y199 y200 y201 y202 y203 y204 y205 w3 hv hk
      obtain ⟨V3, hV3⟩ : ∃ L, L = Bk.inner Ms R0 V0 3 := ⟨_, rfl⟩
      have HV3 := Aside0.mk hV3
      have HM3 := Aside0.mk (show (VAt w3 gv V3 ∧ V3.length = 16) ∧ Bk.KeepBut W w3 gv none from ⟨⟨by rw [hV3, show Bk.inner Ms R0 V0 3 = mixL (Bk.inner Ms R0 V0 2) 2 6 10 14 (Ms.getD (R0.getD 4 0).toNat 0) (Ms.getD (R0.getD 5 0).toNat 0) from rfl, ← HV2.out]; exact hv, by rw [hV3, Bk.inner_len, HL0.out]⟩, HM2.out.2.trans hk⟩)
      clear hv hk hV3
      go_upto_region 36 with fail
      refine m_mix3 gv cv gm cm P V3 Ms _ _ _ HP.out (PL.out ⟨6, by decide⟩).2.1 (PL.out ⟨7, by decide⟩).2.1 (PL.out ⟨6, by decide⟩).2.2.1 (PL.out ⟨6, by decide⟩).2.2.2 (PL.out ⟨7, by decide⟩).2.2.1 (PL.out ⟨7, by decide⟩).2.2.2 (fun j hj => Bk.keep_cell HM3.out.2 (HC.out j hj) HNE.out) HNE.out HM3.out.1.2 HM3.out.1.1 (fun c a a' w h e => HQ.out c a a' w h e) ?_
      intro y206 y207 y208 y209 y210 y211 y212 y213 y214 y215 y216 y217 y218 y219 w4 hv hk
      obtain ⟨V4, hV4⟩ : ∃ L, L = Bk.inner Ms R0 V0 4 := ⟨_, rfl⟩
      have HV4 := Aside0.mk hV4
      have HM4 := Aside0.mk (show (VAt w4 gv V4 ∧ V4.length = 16) ∧ Bk.KeepBut W w4 gv none from ⟨⟨by rw [hV4, show Bk.inner Ms R0 V0 4 = mixL (Bk.inner Ms R0 V0 3) 3 7 11 15 (Ms.getD (R0.getD 6 0).toNat 0) (Ms.getD (R0.getD 7 0).toNat 0) from rfl, ← HV3.out]; exact hv, by rw [hV4, Bk.inner_len, HL0.out]⟩, HM3.out.2.trans hk⟩)
      clear hv hk hV4
      go_upto_region 37 with fail
      refine m_mix4 gv cv gm cm P V4 Ms _ _ _ HP.out (PL.out ⟨8, by decide⟩).2.1 (PL.out ⟨9, by decide⟩).2.1 (PL.out ⟨8, by decide⟩).2.2.1 (PL.out ⟨8, by decide⟩).2.2.2 (PL.out ⟨9, by decide⟩).2.2.1 (PL.out ⟨9, by decide⟩).2.2.2 (fun j hj => Bk.keep_cell HM4.out.2 (HC.out j hj) HNE.out) HNE.out HM4.out.1.2 HM4.out.1.1 (fun c a a' w h e => HQ.out c a a' w h e) ?_
      intro y220 y221 y222 y223 y224 y225 y226 y227 y228 y229 y230 y231 y232 y233 w5 hv hk
      obtain ⟨V5, hV5⟩ : ∃ L, L = Bk.inner Ms R0 V0 5 := ⟨_, rfl⟩
      have HV5 := Aside0.mk hV5
      have HM5 := Aside0.mk (show (VAt w5 gv V5 ∧ V5.length = 16) ∧ Bk.KeepBut W w5 gv none from ⟨⟨by rw [hV5, show Bk.inner Ms R0 V0 5 = mixL (Bk.inner Ms R0 V0 4) 0 5 10 15 (Ms.getD (R0.getD 8 0).toNat 0) (Ms.getD (R0.getD 9 0).toNat 0) from rfl, ← HV4.out]; exact hv, by rw [hV5, Bk.inner_len, HL0.out]⟩, HM4.out.2.trans hk⟩)
      clear hv hk hV5
      go_upto_region 38 with fail
      refine m_mix5 gv cv gm cm P V5 Ms _ _ _ HP.out (PL.out ⟨10, by decide⟩).2.1 (PL.out ⟨11, by decide⟩).2.1 (PL.out ⟨10, by decide⟩).2.2.1 (PL.out ⟨10, by decide⟩).2.2.2 (PL.out ⟨11, by decide⟩).2.2.1 (PL.out ⟨11, by decide⟩).2.2.2 (fun j hj => Bk.keep_cell HM5.out.2 (HC.out j hj) HNE.out) HNE.out HM5.out.1.2 HM5.out.1.1 (fun c a a' w h e => HQ.out c a a' w h e) ?_
      intro y234 y235 y236 y237 y238 y239 y240 y241 y242 y243 y244 y245 y246 y247 w6 hv hk
      obtain ⟨V6, hV6⟩ : ∃ L, L = Bk.inner Ms R0 V0 6 := ⟨_, rfl⟩
      have HV6 := Aside0.mk hV6
      have HM6 := Aside0.mk (show (VAt w6 gv V6 ∧ V6.length = 16) ∧ Bk.KeepBut W w6 gv none from ⟨⟨by rw [hV6, show Bk.inner Ms R0 V0 6 = mixL (Bk.inner Ms R0 V0 5) 1 6 11 12 (Ms.getD (R0.getD 10 0).toNat 0) (Ms.getD (R0.getD 11 0).toNat 0) from rfl, ← HV5.out]; exact hv, by rw [hV6, Bk.inner_len, HL0.out]⟩, HM5.out.2.trans hk⟩)
      clear hv hk hV6
      go_upto_region 39 with fail
      refine m_mix6 gv cv gm cm P V6 Ms _ _ _ HP.out (PL.out ⟨12, by decide⟩).2.1 (PL.out ⟨13, by decide⟩).2.1 (PL.out ⟨12, by decide⟩).2.2.1 (PL.out ⟨12, by decide⟩).2.2.2 (PL.out ⟨13, by decide⟩).2.2.1 (PL.out ⟨13, by decide⟩).2.2.2 (fun j hj => Bk.keep_cell HM6.out.2 (HC.out j hj) HNE.out) HNE.out HM6.out.1.2 HM6.out.1.1 (fun c a a' w h e => HQ.out c a a' w h e) ?_
      intro y248 y249 y250 y251 y252 y253 y254 y255 y256 y257 y258 y259 y260 y261 w7 hv hk
      obtain ⟨V7, hV7⟩ : ∃ L, L = Bk.inner Ms R0 V0 7 := ⟨_, rfl⟩
      have HV7 := Aside0.mk hV7
      have HM7 := Aside0.mk (show (VAt w7 gv V7 ∧ V7.length = 16) ∧ Bk.KeepBut W w7 gv none from ⟨⟨by rw [hV7, show Bk.inner Ms R0 V0 7 = mixL (Bk.inner Ms R0 V0 6) 2 7 8 13 (Ms.getD (R0.getD 12 0).toNat 0) (Ms.getD (R0.getD 13 0).toNat 0) from rfl, ← HV6.out]; exact hv, by rw [hV7, Bk.inner_len, HL0.out]⟩, HM6.out.2.trans hk⟩)
      clear hv hk hV7
      go_upto_region 40 with fail
      refine m_mix7 gv cv gm cm P V7 Ms _ _ _ HP.out (PL.out ⟨14, by decide⟩).2.1 (PL.out ⟨15, by decide⟩).2.1 (PL.out ⟨14, by decide⟩).2.2.1 (PL.out ⟨14, by decide⟩).2.2.2 (PL.out ⟨15, by decide⟩).2.2.1 (PL.out ⟨15, by decide⟩).2.2.2 (fun j hj => Bk.keep_cell HM7.out.2 (HC.out j hj) HNE.out) HNE.out HM7.out.1.2 HM7.out.1.1 (fun c a a' w h e => HQ.out c a a' w h e) ?_
      intro y262 y263 y264 y265 y266 y267 y268 y269 y270 y271 y272 y273 y274 y275 w8 hv hk
      obtain ⟨V8, hV8⟩ : ∃ L, L = Bk.inner Ms R0 V0 8 := ⟨_, rfl⟩
      have HV8 := Aside0.mk hV8
      have HM8 := Aside0.mk (show (VAt w8 gv V8 ∧ V8.length = 16) ∧ Bk.KeepBut W w8 gv none from ⟨⟨by rw [hV8, show Bk.inner Ms R0 V0 8 = mixL (Bk.inner Ms R0 V0 7) 3 4 9 14 (Ms.getD (R0.getD 14 0).toNat 0) (Ms.getD (R0.getD 15 0).toNat 0) from rfl, ← HV7.out]; exact hv, by rw [hV8, Bk.inner_len, HL0.out]⟩, HM7.out.2.trans hk⟩)
      clear hv hk hV8
      go_wp2_with fail
      go_roundw
      case rel =>
        refine ⟨k + 1, hlt, rfl, Aside0.mk ⟨?_, HM8.out.2⟩⟩
        have h := HM8.out.1.1
        rw [HV8.out] at h
        rw [show outer Ms V (k + 1) = Bk.inner Ms (rowsL.getD k []) (outer Ms V k) 8 from rfl, ← HR0.out]
        rw [← HVK.out]
        exact h
      case measure => simp [intOf]; omega
    · obtain rfl : k = 10 := by omega
      go_wp2_with fail
      exact HK.out _ _ _ _ _ _ _ _ _ _ _ _ _ _ _ _ _ _ _ _ _ _ _ _ _ _ _ _ _ _ _ _ _ _ _ _ _ _ _ _ _ _ _ _ _ _ _ _ _ _ _ _ _ _ _ _ _ _ _ _ _ _ _ _ _ _ _ _ _ _ _ _ _ _ _ _ _ _ _ _ _ _ _ _ _ _ _ _ _ _ _ _ _ _ _ _ _ _ _ _ _ _ _ _ _ _ _ _ _ _ _ _ _ _ _ _ _ _ _ _ _ _ _ HV.out.1 HV.out.2
end Go.Proofs.YteplphpbpaojjaaDoor.Rf5
