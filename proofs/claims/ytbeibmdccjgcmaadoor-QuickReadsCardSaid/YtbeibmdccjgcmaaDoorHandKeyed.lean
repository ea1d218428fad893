/- The document's BLAKE2s, walked: what its Keyed and its Sum tell. -/
import Derived.Test.YtbeibmdccjgcmaaDoorProg
import Derived.Below
import Derived.Deep.Draws
import Derived.Deep.AppendLies
import Derived.Maps.AppendAt
import Derived.OwnWalk
import Derived.Laws.BytesArg
import Derived.Laws.MakeOwn
import Derived.Laws.OwnMore
import Derived.Deep.OwnRows
import Derived.Tactics
import Derived.Lib.ConvBytes
import Derived.Laws.Slices
import Derived.WalkKit
import Derived.KernelRfl
import Derived.RowKit3
import Derived.Deep.LoopGhost
import Derived.Deep.QuietTactic
import Derived.BigQuiet
import Derived.WideLaws
import Derived.Deep.DeepCutAuto
import Derived.Deep.CutBlock
import Derived.Deep.RegionHeld3
import Derived.Test.YtbeibmdccjgcmaaDoorWInvWords
import Derived.Laws.Rows
import Derived.Lib.AppendStr
import Derived.ArgAppend
import Derived.Laws.IdiomCopy
import Derived.OrdersHeld
import Derived.Laws.BitsLemmas
import Derived.RowKit
import Derived.Test.YtbeibmdccjgcmaaDoorWWords
import Derived.Test.YtbeibmdccjgcmaaDoorWLast
import Derived.Test.YtbeibmdccjgcmaaDoorWMore
import Derived.OpenShut
import Derived.Test.YtbeibmdccjgcmaaDoorBk12
import Derived.Test.YtbeibmdccjgcmaaDoorKFin
import Derived.Test.YtbeibmdccjgcmaaDoorPRefx1
import Derived.Test.YtbeibmdccjgcmaaDoorHandMix
import Derived.Test.YtbeibmdccjgcmaaDoorRefPure
import Derived.Test.YtbeibmdccjgcmaaDoorBytesRow
namespace Go.Proofs.YtbeibmdccjgcmaaDoor.Rf5
open Go.RowKit Go.Proofs.YtbeibmdccjgcmaaDoorW.PrintWords Go.Proofs.YtbeibmdccjgcmaaDoorW.PrintLast Go.Proofs.YtbeibmdccjgcmaaDoorW.PrintMore Go.Proofs.YtbeibmdccjgcmaaDoor.PRef
open Go.Proofs.YtbeibmdccjgcmaaDoor.Bk (firstsL initL keyL strL digest blakeKeyed compress wordsL wordAt veeL outL outB rowsL mixL finL)
set_option linter.unusedVariables false
set_option linter.unusedSimpArgs false
attribute [local go_sem] max2_int min2_int max_two min_two max_three min_three max_four min_four
theorem VAt.drewN {W : World} {g : Nat} {L : List Int} (h : VAt W g L) (n : Nat) : VAt (W.drewN n) g L := ⟨h.cell, h.free⟩
set_option maxHeartbeats 8000000 in
set_option maxRecDepth 1000000 in
theorem m_mix0 {u0 u1 u2 u3 u4 u5 u6 u7 u8 u9 u10 u11 u12 u14 u16 u17 u19 u20 u21 u22 u23 u24 u25 u26 u27 u28 u29 u30 u31 u32 u33 u34 u35 u36 u37 u38 u39 u40 u41 u42 u43 u44 u45 u46 u47 u48 u49 u50 u51 u52 u53 u54 u55 u56 u57 u58 u59 u60 u61 u62 u63 u64 u65 u66 u67 u68 u69 u70 u71 u72 u73 u74 u75 u76 u77 u78 u79 u80 u81 u82 u83 u84 u85 u86 u87 u88 u89 u90 u91 u92 u93 u94 u95 u96 u97 u98 u99 u100 u101 u102 u103 u104 u105 u106 u107 u108 u109 u110 u111 u112 u113 u114 u115 u116 u117 u118 u119 u120 u121 u122 u123 u124 u125 u126 u127 u128 u129 u130 u131 u132 u133 u134 u135 u136 u137 u138 u139 u140 u141 u142 u143 u144 u145 u146 u147 u148 u149 u150 u151 u152 u153 u154 u155 u156 u157 u158 u159 u160 u161 u162 u163 u164 u165 u166 u167 u168 u169 u170 u171 u172 u173 u174 u175 u176 u177 u178 u179 u180 u181 u182 u183 u184 u185 u186 u187 u188 u189 u190 u191 u192 u193 u194 u195 u196 u197 u198 u199 u200 u201 u202 u203 u204 u205 u206 u207 u208 u209 u210 u211 u212 u213 u214 u215 u216 u217 u218 u219 u220 u221 u222 u223 u224 u225 u226 u227 u228 u229 u230 u231 u232 u233 u234 u235 u236 u237 u238 u239 u240 u241 u242 u243 u244 u245 u246 u247 u248 u249 u250 u251 u252 u253 u254 u255 u256 u257 u258 u259 u260 u261 u262 u263 u264 u265 u266 u267 u268 u269 u270 u271 u272 u273 u274 u275 u276 u277 u278 u279 u280 u281 u282 u283 u284 u285 u286 u287 u288 u289 u290 u291 u292 u293 u294 u295 u296 u297 u298 u299 u300 u301 u302 u303 u304 u305 u306 u307 u308 u309 u310 u311 u312 u313 u314 u315 u316 u317 u318 u319 u320 u321 u322 u323 u324 u325 u326 u327 u328 u329 u330 u331 u332 : Value} (gv cv gm cm : Nat) (P : ByteArray) (V Ms : List Int) (t0 t1 : Int) (W : World) (hP : P.size = 16) (ht0 : hamperref05_place.f (bt P 0) = some t0) (ht1 : hamperref05_place.f (bt P 1) = some t1) (h00 : 0 ≤ t0) (h01 : t0 < 16) (h10 : 0 ≤ t1) (h11 : t1 < 16)
    (hm : ∀ j, j < 16 → W.cell? ⟨gm, j, none⟩ = some (.int .u32 (Ms.getD j 0))) (hne : gm ≠ gv) (hl : V.length = 16) (hV : VAt W gv V) {K : Act → World → Prop} {Q : Exit → Act → World → Prop} (hQ : ∀ c a a' w, Q (Exit.panic c) a w → a.defers = a'.defers → Q (Exit.panic c) a' w)
    (hK : ∀ (x164 x165 x166 x167 x168 x169 x170 x171 x172 x173 x174 x175 x176 x177 : Value) (w' : World), VAt w' gv (mixL V 0 4 8 12 (Ms.getD t0.toNat 0) (Ms.getD t1.toNat 0)) → Bk.KeepBut W w' gv none → K ⟨#[u0, u1, u2, u3, u4, u5, u6, u7, u8, u9, u10, u11, u12, .slice (some ⟨gm, 0, none⟩) 16 cm, u14, .slice (some ⟨gv, 0, none⟩) 16 cv, u16, u17, .string P, u19, u20, u21, u22, u23, u24, u25, u26, u27, u28, u29, u30, u31, u32, u33, u34, u35, u36, u37, u38, u39, u40, u41, u42, u43, u44, u45, u46, u47, u48, u49, u50, u51, u52, u53, u54, u55, u56, u57, u58, u59, u60, u61, u62, u63, u64, u65, u66, u67, u68, u69, u70, u71, u72, u73, u74, u75, u76, u77, u78, u79, u80, u81, u82, u83, u84, u85, u86, u87, u88, u89, u90, u91, u92, u93, u94, u95, u96, u97, u98, u99, u100, u101, u102, u103, u104, u105, u106, u107, u108, u109, u110, u111, u112, u113, u114, u115, u116, u117, u118, u119, u120, u121, u122, u123, u124, u125, u126, u127, u128, u129, u130, u131, u132, u133, u134, u135, u136, u137, u138, u139, u140, u141, u142, u143, u144, u145, u146, u147, u148, u149, u150, u151, u152, u153, u154, u155, u156, u157, u158, u159, u160, u161, u162, u163, x164, x165, x166, x167, x168, x169, x170, x171, x172, x173, x174, x175, x176, x177, u178, u179, u180, u181, u182, u183, u184, u185, u186, u187, u188, u189, u190, u191, u192, u193, u194, u195, u196, u197, u198, u199, u200, u201, u202, u203, u204, u205, u206, u207, u208, u209, u210, u211, u212, u213, u214, u215, u216, u217, u218, u219, u220, u221, u222, u223, u224, u225, u226, u227, u228, u229, u230, u231, u232, u233, u234, u235, u236, u237, u238, u239, u240, u241, u242, u243, u244, u245, u246, u247, u248, u249, u250, u251, u252, u253, u254, u255, u256, u257, u258, u259, u260, u261, u262, u263, u264, u265, u266, u267, u268, u269, u270, u271, u272, u273, u274, u275, u276, u277, u278, u279, u280, u281, u282, u283, u284, u285, u286, u287, u288, u289, u290, u291, u292, u293, u294, u295, u296, u297, u298, u299, u300, u301, u302, u303, u304, u305, u306, u307, u308, u309, u310, u311, u312, u313, u314, u315, u316, u317, u318, u319, u320, u321, u322, u323, u324, u325, u326, u327, u328, u329, u330, u331, u332], []⟩ w') :
    Code.wp Tryd.prog (kReg 33) (Exit.then K Q) ⟨#[u0, u1, u2, u3, u4, u5, u6, u7, u8, u9, u10, u11, u12, .slice (some ⟨gm, 0, none⟩) 16 cm, u14, .slice (some ⟨gv, 0, none⟩) 16 cv, u16, u17, .string P, u19, u20, u21, u22, u23, u24, u25, u26, u27, u28, u29, u30, u31, u32, u33, u34, u35, u36, u37, u38, u39, u40, u41, u42, u43, u44, u45, u46, u47, u48, u49, u50, u51, u52, u53, u54, u55, u56, u57, u58, u59, u60, u61, u62, u63, u64, u65, u66, u67, u68, u69, u70, u71, u72, u73, u74, u75, u76, u77, u78, u79, u80, u81, u82, u83, u84, u85, u86, u87, u88, u89, u90, u91, u92, u93, u94, u95, u96, u97, u98, u99, u100, u101, u102, u103, u104, u105, u106, u107, u108, u109, u110, u111, u112, u113, u114, u115, u116, u117, u118, u119, u120, u121, u122, u123, u124, u125, u126, u127, u128, u129, u130, u131, u132, u133, u134, u135, u136, u137, u138, u139, u140, u141, u142, u143, u144, u145, u146, u147, u148, u149, u150, u151, u152, u153, u154, u155, u156, u157, u158, u159, u160, u161, u162, u163, u164, u165, u166, u167, u168, u169, u170, u171, u172, u173, u174, u175, u176, u177, u178, u179, u180, u181, u182, u183, u184, u185, u186, u187, u188, u189, u190, u191, u192, u193, u194, u195, u196, u197, u198, u199, u200, u201, u202, u203, u204, u205, u206, u207, u208, u209, u210, u211, u212, u213, u214, u215, u216, u217, u218, u219, u220, u221, u222, u223, u224, u225, u226, u227, u228, u229, u230, u231, u232, u233, u234, u235, u236, u237, u238, u239, u240, u241, u242, u243, u244, u245, u246, u247, u248, u249, u250, u251, u252, u253, u254, u255, u256, u257, u258, u259, u260, u261, u262, u263, u264, u265, u266, u267, u268, u269, u270, u271, u272, u273, u274, u275, u276, u277, u278, u279, u280, u281, u282, u283, u284, u285, u286, u287, u288, u289, u290, u291, u292, u293, u294, u295, u296, u297, u298, u299, u300, u301, u302, u303, u304, u305, u306, u307, u308, u309, u310, u311, u312, u313, u314, u315, u316, u317, u318, u319, u320, u321, u322, u323, u324, u325, u326, u327, u328, u329, u330, u331, u332], []⟩ W := by
  have HK := Aside0.mk hK
  have HQ := Aside0.mk hQ
  have HV := Aside0.mk hV
  have HL := Aside0.mk hl
  have HNE := Aside0.mk hne
  have Ht0 := Aside0.mk ht0
  have Ht1 := Aside0.mk ht1
  obtain ⟨x, hx⟩ : ∃ x, x = Ms.getD t0.toNat 0 := ⟨_, rfl⟩
  obtain ⟨y, hy⟩ : ∃ y, y = Ms.getD t1.toNat 0 := ⟨_, rfl⟩
  have hx0 : W.cell? ⟨gm, (t0).toNat, none⟩ = some (.int .u32 x) := by rw [hx]; exact hm _ (by omega)
  have hx1 : W.cell? ⟨gm, (t1).toNat, none⟩ = some (.int .u32 y) := by rw [hy]; exact hm _ (by omega)
  have HX := Aside0.mk (And.intro hx hy)
  have p0 := eq_true h00
  have q0 := eq_true h01
  have p1 := eq_true h10
  have q1 := eq_true h11
  have pa := eq_true (show 0 < P.size by omega)
  have qa := eq_true (show ((0 : Int) < (P.size : Int)) by omega)
  have pb := eq_true (show 1 < P.size by omega)
  have qb := eq_true (show ((1 : Int) < (P.size : Int)) by omega)
  have ra : ∀ h : 0 < P.size, (((P[0]'h).toNat : Nat) : Int) = bt P 0 := bt_at P 0
  have rb : ∀ h : 1 < P.size, (((P[1]'h).toNat : Nat) : Int) = bt P 1 := bt_at P 1
  clear hP hm hK hQ hV hl hne ht0 ht1 hx hy h00 h01 h10 h11
  conv => arg 2; whnf
  refine start_ (n := 14) (S := fun w' => w'.cell? ⟨gm, (t0).toNat, none⟩ = some (.int .u32 x) ∧ w'.cell? ⟨gm, (t1).toNat, none⟩ = some (.int .u32 y)) (ds := []) #[false, false, false, false, false, false, false, false, false, false, false, false, false, false] (by kernel_rfl) rfl rfl ⟨hx0, hx1⟩ (fun hHeld => ?_); refine with_tabW kt33 kb33 (fun HT_ HW_ => ?_)
  have HVd := Aside0.mk HV.out.drew
  clear hx0 hx1
  obtain ⟨wd, hwd⟩ : ∃ W', W' = W.drew := ⟨_, rfl⟩
  rw [← hwd] at HVd hHeld ⊢
  have HWD := Aside0.mk hwd
  clear hwd
  refine pure_ (i := 0) (N := some 164) (v := ?_) (a' := ?_) #[true, false, false, false, false, false, false, false, false, false, false, false, false, false] rfl rfl (any_of HT_.out (by kernel_rfl)) (fun _ _ _ h => HQ.out _ _ _ _ h rfl) (Or.inl ⟨by rfl, ?_⟩) ?_ ?_
  rotate_left
  · intro w'
    go_simp
    with_reducible rfl
  rotate_left
  · simp only [Act.put, List.setIfInBounds_toArray, List.set_cons_zero, List.set_cons_succ, i64_w, i32_w]
    rfl
  refine pure_ (i := 1) (N := some 165) (v := ?_) (a' := ?_) #[true, true, false, false, false, false, false, false, false, false, false, false, false, false] rfl rfl (any_of HT_.out (by kernel_rfl)) (fun _ _ _ h => HQ.out _ _ _ _ h rfl) (Or.inl ⟨by rfl, ?_⟩) ?_ ?_
  rotate_left
  · intro w'
    go_simp
    with_reducible rfl
  rotate_left
  · simp only [Act.put, List.setIfInBounds_toArray, List.set_cons_zero, List.set_cons_succ, i64_w, i32_w]
    rfl
  refine pure_ (i := 2) (N := some 166) (v := ?_) (a' := ?_) #[true, true, true, false, false, false, false, false, false, false, false, false, false, false] rfl rfl (any_of HT_.out (by kernel_rfl)) (fun _ _ _ h => HQ.out _ _ _ _ h rfl) (Or.inl ⟨by rfl, ?_⟩) ?_ ?_
  rotate_left
  · intro w'
    go_simp
    with_reducible rfl
  rotate_left
  · simp only [Act.put, List.setIfInBounds_toArray, List.set_cons_zero, List.set_cons_succ, i64_w, i32_w]
    rfl
  refine pure_ (i := 7) (N := some 171) (v := ?_) (a' := ?_) #[true, true, true, false, false, false, false, true, false, false, false, false, false, false] rfl rfl (any_of HT_.out (by kernel_rfl)) (fun _ _ _ h => HQ.out _ _ _ _ h rfl) (Or.inl ⟨by rfl, ?_⟩) ?_ ?_
  rotate_left
  · intro w'
    go_simp
    with_reducible rfl
  rotate_left
  · simp only [Act.put, List.setIfInBounds_toArray, List.set_cons_zero, List.set_cons_succ, i64_w, i32_w]
    rfl
  refine pure_ (i := 8) (N := some 172) (v := ?_) (a' := ?_) #[true, true, true, false, false, false, false, true, true, false, false, false, false, false] rfl rfl (any_of HT_.out (by kernel_rfl)) (fun _ _ _ h => HQ.out _ _ _ _ h rfl) (Or.inl ⟨by rfl, ?_⟩) ?_ ?_
  rotate_left
  · intro w'
    go_simp
    with_reducible rfl
  rotate_left
  · simp only [Act.put, List.setIfInBounds_toArray, List.set_cons_zero, List.set_cons_succ, i64_w, i32_w]
    rfl
  refine take_ (i := 3) (N := some 167) (v := ?_) (a' := ?_) #[true, true, true, true, false, false, false, true, true, false, false, false, false, false] rfl rfl (take_ofW HT_.out HW_.out (by kernel_rfl)) (fun _ _ _ h => HQ.out _ _ _ _ h rfl) (Or.inl ⟨by rfl, ?_⟩) hHeld ?_ ?_
  rotate_left
  · rintro w' ⟨s0, s1⟩
    go_simp
    with_reducible rfl
  rotate_left
  · simp only [Act.put, List.setIfInBounds_toArray, List.set_cons_zero, List.set_cons_succ, i64_w, i32_w]
    rfl
  refine take_ (i := 9) (N := some 173) (v := ?_) (a' := ?_) #[true, true, true, true, false, false, false, true, true, true, false, false, false, false] rfl rfl (take_ofW HT_.out HW_.out (by kernel_rfl)) (fun _ _ _ h => HQ.out _ _ _ _ h rfl) (Or.inl ⟨by rfl, ?_⟩) hHeld ?_ ?_
  rotate_left
  · rintro w' ⟨s0, s1⟩
    go_simp
    with_reducible rfl
  rotate_left
  · simp only [Act.put, List.setIfInBounds_toArray, List.set_cons_zero, List.set_cons_succ, i64_w, i32_w]
    rfl
  refine one_ (i := 4) (N := some 168) #[true, true, true, true, true, false, false, true, true, true, false, false, false, false] rfl rfl (one_of HT_.out (by kernel_rfl)) (by decide) (fun K hK => ?_)
  refine goes_ Tryd.func50 (by kernel_rfl) rfl #[.int .u8 (bt P 0)] (by rfl) rfl rfl (by (try simp only [List.map_toArray, List.map_cons, List.map_nil]); first | done | rfl) ?_
  with_reducible refine (hamperref05_place.calls (bt P 0) t0 _ Ht0.out).mono ?_
  rintro e w' ⟨rfl, ⟨n0, rfl⟩⟩
  refine ⟨_, rfl, ?_⟩
  refine hK.out _ _ ⟨hHeld.1, hHeld.2⟩ (fun hHeld => ?_)
  clear hK K
  refine norm_ (a' := ?_) ?_ ?_
  rotate_left
  · show Act.put _ (some 168) _ = _
    simp only [Act.put, List.setIfInBounds_toArray, List.set_cons_zero, List.set_cons_succ, i64_w, i32_w]
    rfl
  refine pure_ (i := 5) (N := some 169) (v := ?_) (a' := ?_) #[true, true, true, true, true, true, false, true, true, true, false, false, false, false] rfl rfl (any_of HT_.out (by kernel_rfl)) (fun _ _ _ h => HQ.out _ _ _ _ h rfl) (Or.inl ⟨by rfl, ?_⟩) ?_ ?_
  rotate_left
  · intro w'
    go_simp
    with_reducible rfl
  rotate_left
  · simp only [Act.put, List.setIfInBounds_toArray, List.set_cons_zero, List.set_cons_succ, i64_w, i32_w]
    rfl
  refine take_ (i := 6) (N := some 170) (v := ?_) (a' := ?_) #[true, true, true, true, true, true, true, true, true, true, false, false, false, false] rfl rfl (take_ofW HT_.out HW_.out (by kernel_rfl)) (fun _ _ _ h => HQ.out _ _ _ _ h rfl) (Or.inl ⟨by rfl, ?_⟩) hHeld ?_ ?_
  rotate_left
  · rintro w' ⟨s0, s1⟩
    go_simp
    with_reducible rfl
  rotate_left
  · simp only [Act.put, List.setIfInBounds_toArray, List.set_cons_zero, List.set_cons_succ, i64_w, i32_w]
    rfl
  refine one_ (i := 10) (N := some 174) #[true, true, true, true, true, true, true, true, true, true, true, false, false, false] rfl rfl (one_of HT_.out (by kernel_rfl)) (by decide) (fun K hK => ?_)
  refine goes_ Tryd.func50 (by kernel_rfl) rfl #[.int .u8 (bt P 1)] (by rfl) rfl rfl (by (try simp only [List.map_toArray, List.map_cons, List.map_nil]); first | done | rfl) ?_
  with_reducible refine (hamperref05_place.calls (bt P 1) t1 _ Ht1.out).mono ?_
  rintro e w' ⟨rfl, ⟨n1, rfl⟩⟩
  refine ⟨_, rfl, ?_⟩
  refine hK.out _ _ ⟨hHeld.1, hHeld.2⟩ (fun hHeld => ?_)
  clear hK K
  refine norm_ (a' := ?_) ?_ ?_
  rotate_left
  · show Act.put _ (some 174) _ = _
    simp only [Act.put, List.setIfInBounds_toArray, List.set_cons_zero, List.set_cons_succ, i64_w, i32_w]
    rfl
  refine pure_ (i := 11) (N := some 175) (v := ?_) (a' := ?_) #[true, true, true, true, true, true, true, true, true, true, true, true, false, false] rfl rfl (any_of HT_.out (by kernel_rfl)) (fun _ _ _ h => HQ.out _ _ _ _ h rfl) (Or.inl ⟨by rfl, ?_⟩) ?_ ?_
  rotate_left
  · intro w'
    go_simp
    with_reducible rfl
  rotate_left
  · simp only [Act.put, List.setIfInBounds_toArray, List.set_cons_zero, List.set_cons_succ, i64_w, i32_w]
    rfl
  refine take_ (i := 12) (N := some 176) (v := ?_) (a' := ?_) #[true, true, true, true, true, true, true, true, true, true, true, true, true, false] rfl rfl (take_ofW HT_.out HW_.out (by kernel_rfl)) (fun _ _ _ h => HQ.out _ _ _ _ h rfl) (Or.inl ⟨by rfl, ?_⟩) hHeld ?_ ?_
  rotate_left
  · rintro w' ⟨s0, s1⟩
    go_simp
    with_reducible rfl
  rotate_left
  · simp only [Act.put, List.setIfInBounds_toArray, List.set_cons_zero, List.set_cons_succ, i64_w, i32_w]
    rfl
  refine one_ (i := 13) (N := some 177) #[true, true, true, true, true, true, true, true, true, true, true, true, true, true] rfl rfl (one_of HT_.out (by kernel_rfl)) (by decide) (fun K hK => ?_)
  refine goes_ Tryd.func49 (by kernel_rfl) rfl #[.slice (some ⟨gv, 0, none⟩) 16 cv, .int .i64 0, .int .i64 4, .int .i64 8, .int .i64 12, .int .u32 x, .int .u32 y] (by rfl) rfl rfl (by (try simp only [List.map_toArray, List.map_cons, List.map_nil]); first | done | rfl) ?_
  have hc := mix_calls gv cv V 0 4 8 12 x y ((wd.drewN n0).drewN n1) ((HVd.out.drewN n0).drewN n1) HL.out (by decide) (by decide) (by decide) (by decide) (by decide) (by decide) (by decide) (by decide) (by decide) (by decide)
  refine Calls.mono (show Calls _ _ _ _ _ from hc) ?_
  rintro e w5 ⟨rfl, hv, hk⟩
  refine ⟨_, rfl, ?_⟩
  have hs0 := Bk.keep_cell hk hHeld.1 HNE.out
  have hs1 := Bk.keep_cell hk hHeld.2 HNE.out
  have HV5 := Aside0.mk hv
  have HK5 := Aside0.mk hk
  clear hv hk hc
  refine hK.out _ _ ⟨hs0, hs1⟩ (fun hHeld => ?_)
  clear hK K
  refine norm_ (a' := ?_) ?_ ?_
  rotate_left
  · show Act.put _ (some 177) _ = _
    simp only [Act.put, List.setIfInBounds_toArray, List.set_cons_zero, List.set_cons_succ, i64_w, i32_w]
    rfl
  refine done_ (done_of HT_.out (by kernel_rfl)) ?_
  go_wp2_with fail
  refine HK.out _ _ _ _ _ _ _ _ _ _ _ _ _ _ _ ?_ ?_
  · rw [← HX.out.1, ← HX.out.2]
    exact HV5.out
  · have hk := HK5.out
    rw [HWD.out] at hk
    exact ⟨hk.size, hk.block, hk.os, hk.tape, hk.output⟩
set_option maxHeartbeats 8000000 in
set_option maxRecDepth 1000000 in
theorem m_mix1 {u0 u1 u2 u3 u4 u5 u6 u7 u8 u9 u10 u11 u12 u14 u16 u17 u19 u20 u21 u22 u23 u24 u25 u26 u27 u28 u29 u30 u31 u32 u33 u34 u35 u36 u37 u38 u39 u40 u41 u42 u43 u44 u45 u46 u47 u48 u49 u50 u51 u52 u53 u54 u55 u56 u57 u58 u59 u60 u61 u62 u63 u64 u65 u66 u67 u68 u69 u70 u71 u72 u73 u74 u75 u76 u77 u78 u79 u80 u81 u82 u83 u84 u85 u86 u87 u88 u89 u90 u91 u92 u93 u94 u95 u96 u97 u98 u99 u100 u101 u102 u103 u104 u105 u106 u107 u108 u109 u110 u111 u112 u113 u114 u115 u116 u117 u118 u119 u120 u121 u122 u123 u124 u125 u126 u127 u128 u129 u130 u131 u132 u133 u134 u135 u136 u137 u138 u139 u140 u141 u142 u143 u144 u145 u146 u147 u148 u149 u150 u151 u152 u153 u154 u155 u156 u157 u158 u159 u160 u161 u162 u163 u164 u165 u166 u167 u168 u169 u170 u171 u172 u173 u174 u175 u176 u177 u178 u179 u180 u181 u182 u183 u184 u185 u186 u187 u188 u189 u190 u191 u192 u193 u194 u195 u196 u197 u198 u199 u200 u201 u202 u203 u204 u205 u206 u207 u208 u209 u210 u211 u212 u213 u214 u215 u216 u217 u218 u219 u220 u221 u222 u223 u224 u225 u226 u227 u228 u229 u230 u231 u232 u233 u234 u235 u236 u237 u238 u239 u240 u241 u242 u243 u244 u245 u246 u247 u248 u249 u250 u251 u252 u253 u254 u255 u256 u257 u258 u259 u260 u261 u262 u263 u264 u265 u266 u267 u268 u269 u270 u271 u272 u273 u274 u275 u276 u277 u278 u279 u280 u281 u282 u283 u284 u285 u286 u287 u288 u289 u290 u291 u292 u293 u294 u295 u296 u297 u298 u299 u300 u301 u302 u303 u304 u305 u306 u307 u308 u309 u310 u311 u312 u313 u314 u315 u316 u317 u318 u319 u320 u321 u322 u323 u324 u325 u326 u327 u328 u329 u330 u331 u332 : Value} (gv cv gm cm : Nat) (P : ByteArray) (V Ms : List Int) (t0 t1 : Int) (W : World) (hP : P.size = 16) (ht0 : hamperref05_place.f (bt P 2) = some t0) (ht1 : hamperref05_place.f (bt P 3) = some t1) (h00 : 0 ≤ t0) (h01 : t0 < 16) (h10 : 0 ≤ t1) (h11 : t1 < 16)
    (hm : ∀ j, j < 16 → W.cell? ⟨gm, j, none⟩ = some (.int .u32 (Ms.getD j 0))) (hne : gm ≠ gv) (hl : V.length = 16) (hV : VAt W gv V) {K : Act → World → Prop} {Q : Exit → Act → World → Prop} (hQ : ∀ c a a' w, Q (Exit.panic c) a w → a.defers = a'.defers → Q (Exit.panic c) a' w)
    (hK : ∀ (x178 x179 x180 x181 x182 x183 x184 x185 x186 x187 x188 x189 x190 x191 : Value) (w' : World), VAt w' gv (mixL V 1 5 9 13 (Ms.getD t0.toNat 0) (Ms.getD t1.toNat 0)) → Bk.KeepBut W w' gv none → K ⟨#[u0, u1, u2, u3, u4, u5, u6, u7, u8, u9, u10, u11, u12, .slice (some ⟨gm, 0, none⟩) 16 cm, u14, .slice (some ⟨gv, 0, none⟩) 16 cv, u16, u17, .string P, u19, u20, u21, u22, u23, u24, u25, u26, u27, u28, u29, u30, u31, u32, u33, u34, u35, u36, u37, u38, u39, u40, u41, u42, u43, u44, u45, u46, u47, u48, u49, u50, u51, u52, u53, u54, u55, u56, u57, u58, u59, u60, u61, u62, u63, u64, u65, u66, u67, u68, u69, u70, u71, u72, u73, u74, u75, u76, u77, u78, u79, u80, u81, u82, u83, u84, u85, u86, u87, u88, u89, u90, u91, u92, u93, u94, u95, u96, u97, u98, u99, u100, u101, u102, u103, u104, u105, u106, u107, u108, u109, u110, u111, u112, u113, u114, u115, u116, u117, u118, u119, u120, u121, u122, u123, u124, u125, u126, u127, u128, u129, u130, u131, u132, u133, u134, u135, u136, u137, u138, u139, u140, u141, u142, u143, u144, u145, u146, u147, u148, u149, u150, u151, u152, u153, u154, u155, u156, u157, u158, u159, u160, u161, u162, u163, u164, u165, u166, u167, u168, u169, u170, u171, u172, u173, u174, u175, u176, u177, x178, x179, x180, x181, x182, x183, x184, x185, x186, x187, x188, x189, x190, x191, u192, u193, u194, u195, u196, u197, u198, u199, u200, u201, u202, u203, u204, u205, u206, u207, u208, u209, u210, u211, u212, u213, u214, u215, u216, u217, u218, u219, u220, u221, u222, u223, u224, u225, u226, u227, u228, u229, u230, u231, u232, u233, u234, u235, u236, u237, u238, u239, u240, u241, u242, u243, u244, u245, u246, u247, u248, u249, u250, u251, u252, u253, u254, u255, u256, u257, u258, u259, u260, u261, u262, u263, u264, u265, u266, u267, u268, u269, u270, u271, u272, u273, u274, u275, u276, u277, u278, u279, u280, u281, u282, u283, u284, u285, u286, u287, u288, u289, u290, u291, u292, u293, u294, u295, u296, u297, u298, u299, u300, u301, u302, u303, u304, u305, u306, u307, u308, u309, u310, u311, u312, u313, u314, u315, u316, u317, u318, u319, u320, u321, u322, u323, u324, u325, u326, u327, u328, u329, u330, u331, u332], []⟩ w') :
    Code.wp Tryd.prog (kReg 34) (Exit.then K Q) ⟨#[u0, u1, u2, u3, u4, u5, u6, u7, u8, u9, u10, u11, u12, .slice (some ⟨gm, 0, none⟩) 16 cm, u14, .slice (some ⟨gv, 0, none⟩) 16 cv, u16, u17, .string P, u19, u20, u21, u22, u23, u24, u25, u26, u27, u28, u29, u30, u31, u32, u33, u34, u35, u36, u37, u38, u39, u40, u41, u42, u43, u44, u45, u46, u47, u48, u49, u50, u51, u52, u53, u54, u55, u56, u57, u58, u59, u60, u61, u62, u63, u64, u65, u66, u67, u68, u69, u70, u71, u72, u73, u74, u75, u76, u77, u78, u79, u80, u81, u82, u83, u84, u85, u86, u87, u88, u89, u90, u91, u92, u93, u94, u95, u96, u97, u98, u99, u100, u101, u102, u103, u104, u105, u106, u107, u108, u109, u110, u111, u112, u113, u114, u115, u116, u117, u118, u119, u120, u121, u122, u123, u124, u125, u126, u127, u128, u129, u130, u131, u132, u133, u134, u135, u136, u137, u138, u139, u140, u141, u142, u143, u144, u145, u146, u147, u148, u149, u150, u151, u152, u153, u154, u155, u156, u157, u158, u159, u160, u161, u162, u163, u164, u165, u166, u167, u168, u169, u170, u171, u172, u173, u174, u175, u176, u177, u178, u179, u180, u181, u182, u183, u184, u185, u186, u187, u188, u189, u190, u191, u192, u193, u194, u195, u196, u197, u198, u199, u200, u201, u202, u203, u204, u205, u206, u207, u208, u209, u210, u211, u212, u213, u214, u215, u216, u217, u218, u219, u220, u221, u222, u223, u224, u225, u226, u227, u228, u229, u230, u231, u232, u233, u234, u235, u236, u237, u238, u239, u240, u241, u242, u243, u244, u245, u246, u247, u248, u249, u250, u251, u252, u253, u254, u255, u256, u257, u258, u259, u260, u261, u262, u263, u264, u265, u266, u267, u268, u269, u270, u271, u272, u273, u274, u275, u276, u277, u278, u279, u280, u281, u282, u283, u284, u285, u286, u287, u288, u289, u290, u291, u292, u293, u294, u295, u296, u297, u298, u299, u300, u301, u302, u303, u304, u305, u306, u307, u308, u309, u310, u311, u312, u313, u314, u315, u316, u317, u318, u319, u320, u321, u322, u323, u324, u325, u326, u327, u328, u329, u330, u331, u332], []⟩ W := by
  have HK := Aside0.mk hK
  have HQ := Aside0.mk hQ
  have HV := Aside0.mk hV
  have HL := Aside0.mk hl
  have HNE := Aside0.mk hne
  have Ht0 := Aside0.mk ht0
  have Ht1 := Aside0.mk ht1
  obtain ⟨x, hx⟩ : ∃ x, x = Ms.getD t0.toNat 0 := ⟨_, rfl⟩
  obtain ⟨y, hy⟩ : ∃ y, y = Ms.getD t1.toNat 0 := ⟨_, rfl⟩
  have hx0 : W.cell? ⟨gm, (t0).toNat, none⟩ = some (.int .u32 x) := by rw [hx]; exact hm _ (by omega)
  have hx1 : W.cell? ⟨gm, (t1).toNat, none⟩ = some (.int .u32 y) := by rw [hy]; exact hm _ (by omega)
  have HX := Aside0.mk (And.intro hx hy)
  have p0 := eq_true h00
  have q0 := eq_true h01
  have p1 := eq_true h10
  have q1 := eq_true h11
  have pa := eq_true (show 2 < P.size by omega)
  have qa := eq_true (show ((2 : Int) < (P.size : Int)) by omega)
  have pb := eq_true (show 3 < P.size by omega)
  have qb := eq_true (show ((3 : Int) < (P.size : Int)) by omega)
  have ra : ∀ h : 2 < P.size, (((P[2]'h).toNat : Nat) : Int) = bt P 2 := bt_at P 2
  have rb : ∀ h : 3 < P.size, (((P[3]'h).toNat : Nat) : Int) = bt P 3 := bt_at P 3
  clear hP hm hK hQ hV hl hne ht0 ht1 hx hy h00 h01 h10 h11
  conv => arg 2; whnf
  refine start_ (n := 14) (S := fun w' => w'.cell? ⟨gm, (t0).toNat, none⟩ = some (.int .u32 x) ∧ w'.cell? ⟨gm, (t1).toNat, none⟩ = some (.int .u32 y)) (ds := []) #[false, false, false, false, false, false, false, false, false, false, false, false, false, false] (by kernel_rfl) rfl rfl ⟨hx0, hx1⟩ (fun hHeld => ?_); refine with_tabW kt34 kb34 (fun HT_ HW_ => ?_)
  have HVd := Aside0.mk HV.out.drew
  clear hx0 hx1
  obtain ⟨wd, hwd⟩ : ∃ W', W' = W.drew := ⟨_, rfl⟩
  rw [← hwd] at HVd hHeld ⊢
  have HWD := Aside0.mk hwd
  clear hwd
  refine pure_ (i := 0) (N := some 178) (v := ?_) (a' := ?_) #[true, false, false, false, false, false, false, false, false, false, false, false, false, false] rfl rfl (any_of HT_.out (by kernel_rfl)) (fun _ _ _ h => HQ.out _ _ _ _ h rfl) (Or.inl ⟨by rfl, ?_⟩) ?_ ?_
  rotate_left
  · intro w'
    go_simp
    with_reducible rfl
  rotate_left
  · simp only [Act.put, List.setIfInBounds_toArray, List.set_cons_zero, List.set_cons_succ, i64_w, i32_w]
    rfl
  refine pure_ (i := 1) (N := some 179) (v := ?_) (a' := ?_) #[true, true, false, false, false, false, false, false, false, false, false, false, false, false] rfl rfl (any_of HT_.out (by kernel_rfl)) (fun _ _ _ h => HQ.out _ _ _ _ h rfl) (Or.inl ⟨by rfl, ?_⟩) ?_ ?_
  rotate_left
  · intro w'
    go_simp
    with_reducible rfl
  rotate_left
  · simp only [Act.put, List.setIfInBounds_toArray, List.set_cons_zero, List.set_cons_succ, i64_w, i32_w]
    rfl
  refine pure_ (i := 2) (N := some 180) (v := ?_) (a' := ?_) #[true, true, true, false, false, false, false, false, false, false, false, false, false, false] rfl rfl (any_of HT_.out (by kernel_rfl)) (fun _ _ _ h => HQ.out _ _ _ _ h rfl) (Or.inl ⟨by rfl, ?_⟩) ?_ ?_
  rotate_left
  · intro w'
    go_simp
    with_reducible rfl
  rotate_left
  · simp only [Act.put, List.setIfInBounds_toArray, List.set_cons_zero, List.set_cons_succ, i64_w, i32_w]
    rfl
  refine pure_ (i := 7) (N := some 185) (v := ?_) (a' := ?_) #[true, true, true, false, false, false, false, true, false, false, false, false, false, false] rfl rfl (any_of HT_.out (by kernel_rfl)) (fun _ _ _ h => HQ.out _ _ _ _ h rfl) (Or.inl ⟨by rfl, ?_⟩) ?_ ?_
  rotate_left
  · intro w'
    go_simp
    with_reducible rfl
  rotate_left
  · simp only [Act.put, List.setIfInBounds_toArray, List.set_cons_zero, List.set_cons_succ, i64_w, i32_w]
    rfl
  refine pure_ (i := 8) (N := some 186) (v := ?_) (a' := ?_) #[true, true, true, false, false, false, false, true, true, false, false, false, false, false] rfl rfl (any_of HT_.out (by kernel_rfl)) (fun _ _ _ h => HQ.out _ _ _ _ h rfl) (Or.inl ⟨by rfl, ?_⟩) ?_ ?_
  rotate_left
  · intro w'
    go_simp
    with_reducible rfl
  rotate_left
  · simp only [Act.put, List.setIfInBounds_toArray, List.set_cons_zero, List.set_cons_succ, i64_w, i32_w]
    rfl
  refine take_ (i := 3) (N := some 181) (v := ?_) (a' := ?_) #[true, true, true, true, false, false, false, true, true, false, false, false, false, false] rfl rfl (take_ofW HT_.out HW_.out (by kernel_rfl)) (fun _ _ _ h => HQ.out _ _ _ _ h rfl) (Or.inl ⟨by rfl, ?_⟩) hHeld ?_ ?_
  rotate_left
  · rintro w' ⟨s0, s1⟩
    go_simp
    with_reducible rfl
  rotate_left
  · simp only [Act.put, List.setIfInBounds_toArray, List.set_cons_zero, List.set_cons_succ, i64_w, i32_w]
    rfl
  refine take_ (i := 9) (N := some 187) (v := ?_) (a' := ?_) #[true, true, true, true, false, false, false, true, true, true, false, false, false, false] rfl rfl (take_ofW HT_.out HW_.out (by kernel_rfl)) (fun _ _ _ h => HQ.out _ _ _ _ h rfl) (Or.inl ⟨by rfl, ?_⟩) hHeld ?_ ?_
  rotate_left
  · rintro w' ⟨s0, s1⟩
    go_simp
    with_reducible rfl
  rotate_left
  · simp only [Act.put, List.setIfInBounds_toArray, List.set_cons_zero, List.set_cons_succ, i64_w, i32_w]
    rfl
  refine one_ (i := 4) (N := some 182) #[true, true, true, true, true, false, false, true, true, true, false, false, false, false] rfl rfl (one_of HT_.out (by kernel_rfl)) (by decide) (fun K hK => ?_)
  refine goes_ Tryd.func50 (by kernel_rfl) rfl #[.int .u8 (bt P 2)] (by rfl) rfl rfl (by (try simp only [List.map_toArray, List.map_cons, List.map_nil]); first | done | rfl) ?_
  with_reducible refine (hamperref05_place.calls (bt P 2) t0 _ Ht0.out).mono ?_
  rintro e w' ⟨rfl, ⟨n0, rfl⟩⟩
  refine ⟨_, rfl, ?_⟩
  refine hK.out _ _ ⟨hHeld.1, hHeld.2⟩ (fun hHeld => ?_)
  clear hK K
  refine norm_ (a' := ?_) ?_ ?_
  rotate_left
  · show Act.put _ (some 182) _ = _
    simp only [Act.put, List.setIfInBounds_toArray, List.set_cons_zero, List.set_cons_succ, i64_w, i32_w]
    rfl
  refine pure_ (i := 5) (N := some 183) (v := ?_) (a' := ?_) #[true, true, true, true, true, true, false, true, true, true, false, false, false, false] rfl rfl (any_of HT_.out (by kernel_rfl)) (fun _ _ _ h => HQ.out _ _ _ _ h rfl) (Or.inl ⟨by rfl, ?_⟩) ?_ ?_
  rotate_left
  · intro w'
    go_simp
    with_reducible rfl
  rotate_left
  · simp only [Act.put, List.setIfInBounds_toArray, List.set_cons_zero, List.set_cons_succ, i64_w, i32_w]
    rfl
  refine take_ (i := 6) (N := some 184) (v := ?_) (a' := ?_) #[true, true, true, true, true, true, true, true, true, true, false, false, false, false] rfl rfl (take_ofW HT_.out HW_.out (by kernel_rfl)) (fun _ _ _ h => HQ.out _ _ _ _ h rfl) (Or.inl ⟨by rfl, ?_⟩) hHeld ?_ ?_
  rotate_left
  · rintro w' ⟨s0, s1⟩
    go_simp
    with_reducible rfl
  rotate_left
  · simp only [Act.put, List.setIfInBounds_toArray, List.set_cons_zero, List.set_cons_succ, i64_w, i32_w]
    rfl
  refine one_ (i := 10) (N := some 188) #[true, true, true, true, true, true, true, true, true, true, true, false, false, false] rfl rfl (one_of HT_.out (by kernel_rfl)) (by decide) (fun K hK => ?_)
  refine goes_ Tryd.func50 (by kernel_rfl) rfl #[.int .u8 (bt P 3)] (by rfl) rfl rfl (by (try simp only [List.map_toArray, List.map_cons, List.map_nil]); first | done | rfl) ?_
  with_reducible refine (hamperref05_place.calls (bt P 3) t1 _ Ht1.out).mono ?_
  rintro e w' ⟨rfl, ⟨n1, rfl⟩⟩
  refine ⟨_, rfl, ?_⟩
  refine hK.out _ _ ⟨hHeld.1, hHeld.2⟩ (fun hHeld => ?_)
  clear hK K
  refine norm_ (a' := ?_) ?_ ?_
  rotate_left
  · show Act.put _ (some 188) _ = _
    simp only [Act.put, List.setIfInBounds_toArray, List.set_cons_zero, List.set_cons_succ, i64_w, i32_w]
    rfl
  refine pure_ (i := 11) (N := some 189) (v := ?_) (a' := ?_) #[true, true, true, true, true, true, true, true, true, true, true, true, false, false] rfl rfl (any_of HT_.out (by kernel_rfl)) (fun _ _ _ h => HQ.out _ _ _ _ h rfl) (Or.inl ⟨by rfl, ?_⟩) ?_ ?_
  rotate_left
  · intro w'
    go_simp
    with_reducible rfl
  rotate_left
  · simp only [Act.put, List.setIfInBounds_toArray, List.set_cons_zero, List.set_cons_succ, i64_w, i32_w]
    rfl
  refine take_ (i := 12) (N := some 190) (v := ?_) (a' := ?_) #[true, true, true, true, true, true, true, true, true, true, true, true, true, false] rfl rfl (take_ofW HT_.out HW_.out (by kernel_rfl)) (fun _ _ _ h => HQ.out _ _ _ _ h rfl) (Or.inl ⟨by rfl, ?_⟩) hHeld ?_ ?_
  rotate_left
  · rintro w' ⟨s0, s1⟩
    go_simp
    with_reducible rfl
  rotate_left
  · simp only [Act.put, List.setIfInBounds_toArray, List.set_cons_zero, List.set_cons_succ, i64_w, i32_w]
    rfl
  refine one_ (i := 13) (N := some 191) #[true, true, true, true, true, true, true, true, true, true, true, true, true, true] rfl rfl (one_of HT_.out (by kernel_rfl)) (by decide) (fun K hK => ?_)
  refine goes_ Tryd.func49 (by kernel_rfl) rfl #[.slice (some ⟨gv, 0, none⟩) 16 cv, .int .i64 1, .int .i64 5, .int .i64 9, .int .i64 13, .int .u32 x, .int .u32 y] (by rfl) rfl rfl (by (try simp only [List.map_toArray, List.map_cons, List.map_nil]); first | done | rfl) ?_
  have hc := mix_calls gv cv V 1 5 9 13 x y ((wd.drewN n0).drewN n1) ((HVd.out.drewN n0).drewN n1) HL.out (by decide) (by decide) (by decide) (by decide) (by decide) (by decide) (by decide) (by decide) (by decide) (by decide)
  refine Calls.mono (show Calls _ _ _ _ _ from hc) ?_
  rintro e w5 ⟨rfl, hv, hk⟩
  refine ⟨_, rfl, ?_⟩
  have hs0 := Bk.keep_cell hk hHeld.1 HNE.out
  have hs1 := Bk.keep_cell hk hHeld.2 HNE.out
  have HV5 := Aside0.mk hv
  have HK5 := Aside0.mk hk
  clear hv hk hc
  refine hK.out _ _ ⟨hs0, hs1⟩ (fun hHeld => ?_)
  clear hK K
  refine norm_ (a' := ?_) ?_ ?_
  rotate_left
  · show Act.put _ (some 191) _ = _
    simp only [Act.put, List.setIfInBounds_toArray, List.set_cons_zero, List.set_cons_succ, i64_w, i32_w]
    rfl
  refine done_ (done_of HT_.out (by kernel_rfl)) ?_
  go_wp2_with fail
  refine HK.out _ _ _ _ _ _ _ _ _ _ _ _ _ _ _ ?_ ?_
  · rw [← HX.out.1, ← HX.out.2]
    exact HV5.out
  · have hk := HK5.out
    rw [HWD.out] at hk
    exact ⟨hk.size, hk.block, hk.os, hk.tape, hk.output⟩
set_option maxHeartbeats 8000000 in
set_option maxRecDepth 1000000 in
theorem m_mix2 {u0 u1 u2 u3 u4 u5 u6 u7 u8 u9 u10 u11 u12 u14 u16 u17 u19 u20 u21 u22 u23 u24 u25 u26 u27 u28 u29 u30 u31 u32 u33 u34 u35 u36 u37 u38 u39 u40 u41 u42 u43 u44 u45 u46 u47 u48 u49 u50 u51 u52 u53 u54 u55 u56 u57 u58 u59 u60 u61 u62 u63 u64 u65 u66 u67 u68 u69 u70 u71 u72 u73 u74 u75 u76 u77 u78 u79 u80 u81 u82 u83 u84 u85 u86 u87 u88 u89 u90 u91 u92 u93 u94 u95 u96 u97 u98 u99 u100 u101 u102 u103 u104 u105 u106 u107 u108 u109 u110 u111 u112 u113 u114 u115 u116 u117 u118 u119 u120 u121 u122 u123 u124 u125 u126 u127 u128 u129 u130 u131 u132 u133 u134 u135 u136 u137 u138 u139 u140 u141 u142 u143 u144 u145 u146 u147 u148 u149 u150 u151 u152 u153 u154 u155 u156 u157 u158 u159 u160 u161 u162 u163 u164 u165 u166 u167 u168 u169 u170 u171 u172 u173 u174 u175 u176 u177 u178 u179 u180 u181 u182 u183 u184 u185 u186 u187 u188 u189 u190 u191 u192 u193 u194 u195 u196 u197 u198 u199 u200 u201 u202 u203 u204 u205 u206 u207 u208 u209 u210 u211 u212 u213 u214 u215 u216 u217 u218 u219 u220 u221 u222 u223 u224 u225 u226 u227 u228 u229 u230 u231 u232 u233 u234 u235 u236 u237 u238 u239 u240 u241 u242 u243 u244 u245 u246 u247 u248 u249 u250 u251 u252 u253 u254 u255 u256 u257 u258 u259 u260 u261 u262 u263 u264 u265 u266 u267 u268 u269 u270 u271 u272 u273 u274 u275 u276 u277 u278 u279 u280 u281 u282 u283 u284 u285 u286 u287 u288 u289 u290 u291 u292 u293 u294 u295 u296 u297 u298 u299 u300 u301 u302 u303 u304 u305 u306 u307 u308 u309 u310 u311 u312 u313 u314 u315 u316 u317 u318 u319 u320 u321 u322 u323 u324 u325 u326 u327 u328 u329 u330 u331 u332 : Value} (gv cv gm cm : Nat) (P : ByteArray) (V Ms : List Int) (t0 t1 : Int) (W : World) (hP : P.size = 16) (ht0 : hamperref05_place.f (bt P 4) = some t0) (ht1 : hamperref05_place.f (bt P 5) = some t1) (h00 : 0 ≤ t0) (h01 : t0 < 16) (h10 : 0 ≤ t1) (h11 : t1 < 16)
    (hm : ∀ j, j < 16 → W.cell? ⟨gm, j, none⟩ = some (.int .u32 (Ms.getD j 0))) (hne : gm ≠ gv) (hl : V.length = 16) (hV : VAt W gv V) {K : Act → World → Prop} {Q : Exit → Act → World → Prop} (hQ : ∀ c a a' w, Q (Exit.panic c) a w → a.defers = a'.defers → Q (Exit.panic c) a' w)
    (hK : ∀ (x192 x193 x194 x195 x196 x197 x198 x199 x200 x201 x202 x203 x204 x205 : Value) (w' : World), VAt w' gv (mixL V 2 6 10 14 (Ms.getD t0.toNat 0) (Ms.getD t1.toNat 0)) → Bk.KeepBut W w' gv none → K ⟨#[u0, u1, u2, u3, u4, u5, u6, u7, u8, u9, u10, u11, u12, .slice (some ⟨gm, 0, none⟩) 16 cm, u14, .slice (some ⟨gv, 0, none⟩) 16 cv, u16, u17, .string P, u19, u20, u21, u22, u23, u24, u25, u26, u27, u28, u29, u30, u31, u32, u33, u34, u35, u36, u37, u38, u39, u40, u41, u42, u43, u44, u45, u46, u47, u48, u49, u50, u51, u52, u53, u54, u55, u56, u57, u58, u59, u60, u61, u62, u63, u64, u65, u66, u67, u68, u69, u70, u71, u72, u73, u74, u75, u76, u77, u78, u79, u80, u81, u82, u83, u84, u85, u86, u87, u88, u89, u90, u91, u92, u93, u94, u95, u96, u97, u98, u99, u100, u101, u102, u103, u104, u105, u106, u107, u108, u109, u110, u111, u112, u113, u114, u115, u116, u117, u118, u119, u120, u121, u122, u123, u124, u125, u126, u127, u128, u129, u130, u131, u132, u133, u134, u135, u136, u137, u138, u139, u140, u141, u142, u143, u144, u145, u146, u147, u148, u149, u150, u151, u152, u153, u154, u155, u156, u157, u158, u159, u160, u161, u162, u163, u164, u165, u166, u167, u168, u169, u170, u171, u172, u173, u174, u175, u176, u177, u178, u179, u180, u181, u182, u183, u184, u185, u186, u187, u188, u189, u190, u191, x192, x193, x194, x195, x196, x197, x198, x199, x200, x201, x202, x203, x204, x205, u206, u207, u208, u209, u210, u211, u212, u213, u214, u215, u216, u217, u218, u219, u220, u221, u222, u223, u224, u225, u226, u227, u228, u229, u230, u231, u232, u233, u234, u235, u236, u237, u238, u239, u240, u241, u242, u243, u244, u245, u246, u247, u248, u249, u250, u251, u252, u253, u254, u255, u256, u257, u258, u259, u260, u261, u262, u263, u264, u265, u266, u267, u268, u269, u270, u271, u272, u273, u274, u275, u276, u277, u278, u279, u280, u281, u282, u283, u284, u285, u286, u287, u288, u289, u290, u291, u292, u293, u294, u295, u296, u297, u298, u299, u300, u301, u302, u303, u304, u305, u306, u307, u308, u309, u310, u311, u312, u313, u314, u315, u316, u317, u318, u319, u320, u321, u322, u323, u324, u325, u326, u327, u328, u329, u330, u331, u332], []⟩ w') :
    Code.wp Tryd.prog (kReg 35) (Exit.then K Q) ⟨#[u0, u1, u2, u3, u4, u5, u6, u7, u8, u9, u10, u11, u12, .slice (some ⟨gm, 0, none⟩) 16 cm, u14, .slice (some ⟨gv, 0, none⟩) 16 cv, u16, u17, .string P, u19, u20, u21, u22, u23, u24, u25, u26, u27, u28, u29, u30, u31, u32, u33, u34, u35, u36, u37, u38, u39, u40, u41, u42, u43, u44, u45, u46, u47, u48, u49, u50, u51, u52, u53, u54, u55, u56, u57, u58, u59, u60, u61, u62, u63, u64, u65, u66, u67, u68, u69, u70, u71, u72, u73, u74, u75, u76, u77, u78, u79, u80, u81, u82, u83, u84, u85, u86, u87, u88, u89, u90, u91, u92, u93, u94, u95, u96, u97, u98, u99, u100, u101, u102, u103, u104, u105, u106, u107, u108, u109, u110, u111, u112, u113, u114, u115, u116, u117, u118, u119, u120, u121, u122, u123, u124, u125, u126, u127, u128, u129, u130, u131, u132, u133, u134, u135, u136, u137, u138, u139, u140, u141, u142, u143, u144, u145, u146, u147, u148, u149, u150, u151, u152, u153, u154, u155, u156, u157, u158, u159, u160, u161, u162, u163, u164, u165, u166, u167, u168, u169, u170, u171, u172, u173, u174, u175, u176, u177, u178, u179, u180, u181, u182, u183, u184, u185, u186, u187, u188, u189, u190, u191, u192, u193, u194, u195, u196, u197, u198, u199, u200, u201, u202, u203, u204, u205, u206, u207, u208, u209, u210, u211, u212, u213, u214, u215, u216, u217, u218, u219, u220, u221, u222, u223, u224, u225, u226, u227, u228, u229, u230, u231, u232, u233, u234, u235, u236, u237, u238, u239, u240, u241, u242, u243, u244, u245, u246, u247, u248, u249, u250, u251, u252, u253, u254, u255, u256, u257, u258, u259, u260, u261, u262, u263, u264, u265, u266, u267, u268, u269, u270, u271, u272, u273, u274, u275, u276, u277, u278, u279, u280, u281, u282, u283, u284, u285, u286, u287, u288, u289, u290, u291, u292, u293, u294, u295, u296, u297, u298, u299, u300, u301, u302, u303, u304, u305, u306, u307, u308, u309, u310, u311, u312, u313, u314, u315, u316, u317, u318, u319, u320, u321, u322, u323, u324, u325, u326, u327, u328, u329, u330, u331, u332], []⟩ W := by
  have HK := Aside0.mk hK
  have HQ := Aside0.mk hQ
  have HV := Aside0.mk hV
  have HL := Aside0.mk hl
  have HNE := Aside0.mk hne
  have Ht0 := Aside0.mk ht0
  have Ht1 := Aside0.mk ht1
  obtain ⟨x, hx⟩ : ∃ x, x = Ms.getD t0.toNat 0 := ⟨_, rfl⟩
  obtain ⟨y, hy⟩ : ∃ y, y = Ms.getD t1.toNat 0 := ⟨_, rfl⟩
  have hx0 : W.cell? ⟨gm, (t0).toNat, none⟩ = some (.int .u32 x) := by rw [hx]; exact hm _ (by omega)
  have hx1 : W.cell? ⟨gm, (t1).toNat, none⟩ = some (.int .u32 y) := by rw [hy]; exact hm _ (by omega)
  have HX := Aside0.mk (And.intro hx hy)
  have p0 := eq_true h00
  have q0 := eq_true h01
  have p1 := eq_true h10
  have q1 := eq_true h11
  have pa := eq_true (show 4 < P.size by omega)
  have qa := eq_true (show ((4 : Int) < (P.size : Int)) by omega)
  have pb := eq_true (show 5 < P.size by omega)
  have qb := eq_true (show ((5 : Int) < (P.size : Int)) by omega)
  have ra : ∀ h : 4 < P.size, (((P[4]'h).toNat : Nat) : Int) = bt P 4 := bt_at P 4
  have rb : ∀ h : 5 < P.size, (((P[5]'h).toNat : Nat) : Int) = bt P 5 := bt_at P 5
  clear hP hm hK hQ hV hl hne ht0 ht1 hx hy h00 h01 h10 h11
  conv => arg 2; whnf
  refine start_ (n := 14) (S := fun w' => w'.cell? ⟨gm, (t0).toNat, none⟩ = some (.int .u32 x) ∧ w'.cell? ⟨gm, (t1).toNat, none⟩ = some (.int .u32 y)) (ds := []) #[false, false, false, false, false, false, false, false, false, false, false, false, false, false] (by kernel_rfl) rfl rfl ⟨hx0, hx1⟩ (fun hHeld => ?_); refine with_tabW kt35 kb35 (fun HT_ HW_ => ?_)
  have HVd := Aside0.mk HV.out.drew
  clear hx0 hx1
  obtain ⟨wd, hwd⟩ : ∃ W', W' = W.drew := ⟨_, rfl⟩
  rw [← hwd] at HVd hHeld ⊢
  have HWD := Aside0.mk hwd
  clear hwd
  refine pure_ (i := 0) (N := some 192) (v := ?_) (a' := ?_) #[true, false, false, false, false, false, false, false, false, false, false, false, false, false] rfl rfl (any_of HT_.out (by kernel_rfl)) (fun _ _ _ h => HQ.out _ _ _ _ h rfl) (Or.inl ⟨by rfl, ?_⟩) ?_ ?_
  rotate_left
  · intro w'
    go_simp
    with_reducible rfl
  rotate_left
  · simp only [Act.put, List.setIfInBounds_toArray, List.set_cons_zero, List.set_cons_succ, i64_w, i32_w]
    rfl
  refine pure_ (i := 1) (N := some 193) (v := ?_) (a' := ?_) #[true, true, false, false, false, false, false, false, false, false, false, false, false, false] rfl rfl (any_of HT_.out (by kernel_rfl)) (fun _ _ _ h => HQ.out _ _ _ _ h rfl) (Or.inl ⟨by rfl, ?_⟩) ?_ ?_
  rotate_left
  · intro w'
    go_simp
    with_reducible rfl
  rotate_left
  · simp only [Act.put, List.setIfInBounds_toArray, List.set_cons_zero, List.set_cons_succ, i64_w, i32_w]
    rfl
  refine pure_ (i := 2) (N := some 194) (v := ?_) (a' := ?_) #[true, true, true, false, false, false, false, false, false, false, false, false, false, false] rfl rfl (any_of HT_.out (by kernel_rfl)) (fun _ _ _ h => HQ.out _ _ _ _ h rfl) (Or.inl ⟨by rfl, ?_⟩) ?_ ?_
  rotate_left
  · intro w'
    go_simp
    with_reducible rfl
  rotate_left
  · simp only [Act.put, List.setIfInBounds_toArray, List.set_cons_zero, List.set_cons_succ, i64_w, i32_w]
    rfl
  refine pure_ (i := 7) (N := some 199) (v := ?_) (a' := ?_) #[true, true, true, false, false, false, false, true, false, false, false, false, false, false] rfl rfl (any_of HT_.out (by kernel_rfl)) (fun _ _ _ h => HQ.out _ _ _ _ h rfl) (Or.inl ⟨by rfl, ?_⟩) ?_ ?_
  rotate_left
  · intro w'
    go_simp
    with_reducible rfl
  rotate_left
  · simp only [Act.put, List.setIfInBounds_toArray, List.set_cons_zero, List.set_cons_succ, i64_w, i32_w]
    rfl
  refine pure_ (i := 8) (N := some 200) (v := ?_) (a' := ?_) #[true, true, true, false, false, false, false, true, true, false, false, false, false, false] rfl rfl (any_of HT_.out (by kernel_rfl)) (fun _ _ _ h => HQ.out _ _ _ _ h rfl) (Or.inl ⟨by rfl, ?_⟩) ?_ ?_
  rotate_left
  · intro w'
    go_simp
    with_reducible rfl
  rotate_left
  · simp only [Act.put, List.setIfInBounds_toArray, List.set_cons_zero, List.set_cons_succ, i64_w, i32_w]
    rfl
  refine take_ (i := 3) (N := some 195) (v := ?_) (a' := ?_) #[true, true, true, true, false, false, false, true, true, false, false, false, false, false] rfl rfl (take_ofW HT_.out HW_.out (by kernel_rfl)) (fun _ _ _ h => HQ.out _ _ _ _ h rfl) (Or.inl ⟨by rfl, ?_⟩) hHeld ?_ ?_
  rotate_left
  · rintro w' ⟨s0, s1⟩
    go_simp
    with_reducible rfl
  rotate_left
  · simp only [Act.put, List.setIfInBounds_toArray, List.set_cons_zero, List.set_cons_succ, i64_w, i32_w]
    rfl
  refine take_ (i := 9) (N := some 201) (v := ?_) (a' := ?_) #[true, true, true, true, false, false, false, true, true, true, false, false, false, false] rfl rfl (take_ofW HT_.out HW_.out (by kernel_rfl)) (fun _ _ _ h => HQ.out _ _ _ _ h rfl) (Or.inl ⟨by rfl, ?_⟩) hHeld ?_ ?_
  rotate_left
  · rintro w' ⟨s0, s1⟩
    go_simp
    with_reducible rfl
  rotate_left
  · simp only [Act.put, List.setIfInBounds_toArray, List.set_cons_zero, List.set_cons_succ, i64_w, i32_w]
    rfl
  refine one_ (i := 4) (N := some 196) #[true, true, true, true, true, false, false, true, true, true, false, false, false, false] rfl rfl (one_of HT_.out (by kernel_rfl)) (by decide) (fun K hK => ?_)
  refine goes_ Tryd.func50 (by kernel_rfl) rfl #[.int .u8 (bt P 4)] (by rfl) rfl rfl (by (try simp only [List.map_toArray, List.map_cons, List.map_nil]); first | done | rfl) ?_
  with_reducible refine (hamperref05_place.calls (bt P 4) t0 _ Ht0.out).mono ?_
  rintro e w' ⟨rfl, ⟨n0, rfl⟩⟩
  refine ⟨_, rfl, ?_⟩
  refine hK.out _ _ ⟨hHeld.1, hHeld.2⟩ (fun hHeld => ?_)
  clear hK K
  refine norm_ (a' := ?_) ?_ ?_
  rotate_left
  · show Act.put _ (some 196) _ = _
    simp only [Act.put, List.setIfInBounds_toArray, List.set_cons_zero, List.set_cons_succ, i64_w, i32_w]
    rfl
  refine pure_ (i := 5) (N := some 197) (v := ?_) (a' := ?_) #[true, true, true, true, true, true, false, true, true, true, false, false, false, false] rfl rfl (any_of HT_.out (by kernel_rfl)) (fun _ _ _ h => HQ.out _ _ _ _ h rfl) (Or.inl ⟨by rfl, ?_⟩) ?_ ?_
  rotate_left
  · intro w'
    go_simp
    with_reducible rfl
  rotate_left
  · simp only [Act.put, List.setIfInBounds_toArray, List.set_cons_zero, List.set_cons_succ, i64_w, i32_w]
    rfl
  refine take_ (i := 6) (N := some 198) (v := ?_) (a' := ?_) #[true, true, true, true, true, true, true, true, true, true, false, false, false, false] rfl rfl (take_ofW HT_.out HW_.out (by kernel_rfl)) (fun _ _ _ h => HQ.out _ _ _ _ h rfl) (Or.inl ⟨by rfl, ?_⟩) hHeld ?_ ?_
  rotate_left
  · rintro w' ⟨s0, s1⟩
    go_simp
    with_reducible rfl
  rotate_left
  · simp only [Act.put, List.setIfInBounds_toArray, List.set_cons_zero, List.set_cons_succ, i64_w, i32_w]
    rfl
  refine one_ (i := 10) (N := some 202) #[true, true, true, true, true, true, true, true, true, true, true, false, false, false] rfl rfl (one_of HT_.out (by kernel_rfl)) (by decide) (fun K hK => ?_)
  refine goes_ Tryd.func50 (by kernel_rfl) rfl #[.int .u8 (bt P 5)] (by rfl) rfl rfl (by (try simp only [List.map_toArray, List.map_cons, List.map_nil]); first | done | rfl) ?_
  with_reducible refine (hamperref05_place.calls (bt P 5) t1 _ Ht1.out).mono ?_
  rintro e w' ⟨rfl, ⟨n1, rfl⟩⟩
  refine ⟨_, rfl, ?_⟩
  refine hK.out _ _ ⟨hHeld.1, hHeld.2⟩ (fun hHeld => ?_)
  clear hK K
  refine norm_ (a' := ?_) ?_ ?_
  rotate_left
  · show Act.put _ (some 202) _ = _
    simp only [Act.put, List.setIfInBounds_toArray, List.set_cons_zero, List.set_cons_succ, i64_w, i32_w]
    rfl
  refine pure_ (i := 11) (N := some 203) (v := ?_) (a' := ?_) #[true, true, true, true, true, true, true, true, true, true, true, true, false, false] rfl rfl (any_of HT_.out (by kernel_rfl)) (fun _ _ _ h => HQ.out _ _ _ _ h rfl) (Or.inl ⟨by rfl, ?_⟩) ?_ ?_
  rotate_left
  · intro w'
    go_simp
    with_reducible rfl
  rotate_left
  · simp only [Act.put, List.setIfInBounds_toArray, List.set_cons_zero, List.set_cons_succ, i64_w, i32_w]
    rfl
  refine take_ (i := 12) (N := some 204) (v := ?_) (a' := ?_) #[true, true, true, true, true, true, true, true, true, true, true, true, true, false] rfl rfl (take_ofW HT_.out HW_.out (by kernel_rfl)) (fun _ _ _ h => HQ.out _ _ _ _ h rfl) (Or.inl ⟨by rfl, ?_⟩) hHeld ?_ ?_
  rotate_left
  · rintro w' ⟨s0, s1⟩
    go_simp
    with_reducible rfl
  rotate_left
  · simp only [Act.put, List.setIfInBounds_toArray, List.set_cons_zero, List.set_cons_succ, i64_w, i32_w]
    rfl
  refine one_ (i := 13) (N := some 205) #[true, true, true, true, true, true, true, true, true, true, true, true, true, true] rfl rfl (one_of HT_.out (by kernel_rfl)) (by decide) (fun K hK => ?_)
  refine goes_ Tryd.func49 (by kernel_rfl) rfl #[.slice (some ⟨gv, 0, none⟩) 16 cv, .int .i64 2, .int .i64 6, .int .i64 10, .int .i64 14, .int .u32 x, .int .u32 y] (by rfl) rfl rfl (by (try simp only [List.map_toArray, List.map_cons, List.map_nil]); first | done | rfl) ?_
  have hc := mix_calls gv cv V 2 6 10 14 x y ((wd.drewN n0).drewN n1) ((HVd.out.drewN n0).drewN n1) HL.out (by decide) (by decide) (by decide) (by decide) (by decide) (by decide) (by decide) (by decide) (by decide) (by decide)
  refine Calls.mono (show Calls _ _ _ _ _ from hc) ?_
  rintro e w5 ⟨rfl, hv, hk⟩
  refine ⟨_, rfl, ?_⟩
  have hs0 := Bk.keep_cell hk hHeld.1 HNE.out
  have hs1 := Bk.keep_cell hk hHeld.2 HNE.out
  have HV5 := Aside0.mk hv
  have HK5 := Aside0.mk hk
  clear hv hk hc
  refine hK.out _ _ ⟨hs0, hs1⟩ (fun hHeld => ?_)
  clear hK K
  refine norm_ (a' := ?_) ?_ ?_
  rotate_left
  · show Act.put _ (some 205) _ = _
    simp only [Act.put, List.setIfInBounds_toArray, List.set_cons_zero, List.set_cons_succ, i64_w, i32_w]
    rfl
  refine done_ (done_of HT_.out (by kernel_rfl)) ?_
  go_wp2_with fail
  refine HK.out _ _ _ _ _ _ _ _ _ _ _ _ _ _ _ ?_ ?_
  · rw [← HX.out.1, ← HX.out.2]
    exact HV5.out
  · have hk := HK5.out
    rw [HWD.out] at hk
    exact ⟨hk.size, hk.block, hk.os, hk.tape, hk.output⟩
set_option maxHeartbeats 8000000 in
set_option maxRecDepth 1000000 in
theorem m_mix3 {u0 u1 u2 u3 u4 u5 u6 u7 u8 u9 u10 u11 u12 u14 u16 u17 u19 u20 u21 u22 u23 u24 u25 u26 u27 u28 u29 u30 u31 u32 u33 u34 u35 u36 u37 u38 u39 u40 u41 u42 u43 u44 u45 u46 u47 u48 u49 u50 u51 u52 u53 u54 u55 u56 u57 u58 u59 u60 u61 u62 u63 u64 u65 u66 u67 u68 u69 u70 u71 u72 u73 u74 u75 u76 u77 u78 u79 u80 u81 u82 u83 u84 u85 u86 u87 u88 u89 u90 u91 u92 u93 u94 u95 u96 u97 u98 u99 u100 u101 u102 u103 u104 u105 u106 u107 u108 u109 u110 u111 u112 u113 u114 u115 u116 u117 u118 u119 u120 u121 u122 u123 u124 u125 u126 u127 u128 u129 u130 u131 u132 u133 u134 u135 u136 u137 u138 u139 u140 u141 u142 u143 u144 u145 u146 u147 u148 u149 u150 u151 u152 u153 u154 u155 u156 u157 u158 u159 u160 u161 u162 u163 u164 u165 u166 u167 u168 u169 u170 u171 u172 u173 u174 u175 u176 u177 u178 u179 u180 u181 u182 u183 u184 u185 u186 u187 u188 u189 u190 u191 u192 u193 u194 u195 u196 u197 u198 u199 u200 u201 u202 u203 u204 u205 u206 u207 u208 u209 u210 u211 u212 u213 u214 u215 u216 u217 u218 u219 u220 u221 u222 u223 u224 u225 u226 u227 u228 u229 u230 u231 u232 u233 u234 u235 u236 u237 u238 u239 u240 u241 u242 u243 u244 u245 u246 u247 u248 u249 u250 u251 u252 u253 u254 u255 u256 u257 u258 u259 u260 u261 u262 u263 u264 u265 u266 u267 u268 u269 u270 u271 u272 u273 u274 u275 u276 u277 u278 u279 u280 u281 u282 u283 u284 u285 u286 u287 u288 u289 u290 u291 u292 u293 u294 u295 u296 u297 u298 u299 u300 u301 u302 u303 u304 u305 u306 u307 u308 u309 u310 u311 u312 u313 u314 u315 u316 u317 u318 u319 u320 u321 u322 u323 u324 u325 u326 u327 u328 u329 u330 u331 u332 : Value} (gv cv gm cm : Nat) (P : ByteArray) (V Ms : List Int) (t0 t1 : Int) (W : World) (hP : P.size = 16) (ht0 : hamperref05_place.f (bt P 6) = some t0) (ht1 : hamperref05_place.f (bt P 7) = some t1) (h00 : 0 ≤ t0) (h01 : t0 < 16) (h10 : 0 ≤ t1) (h11 : t1 < 16)
    (hm : ∀ j, j < 16 → W.cell? ⟨gm, j, none⟩ = some (.int .u32 (Ms.getD j 0))) (hne : gm ≠ gv) (hl : V.length = 16) (hV : VAt W gv V) {K : Act → World → Prop} {Q : Exit → Act → World → Prop} (hQ : ∀ c a a' w, Q (Exit.panic c) a w → a.defers = a'.defers → Q (Exit.panic c) a' w)
    (hK : ∀ (x206 x207 x208 x209 x210 x211 x212 x213 x214 x215 x216 x217 x218 x219 : Value) (w' : World), VAt w' gv (mixL V 3 7 11 15 (Ms.getD t0.toNat 0) (Ms.getD t1.toNat 0)) → Bk.KeepBut W w' gv none → K ⟨#[u0, u1, u2, u3, u4, u5, u6, u7, u8, u9, u10, u11, u12, .slice (some ⟨gm, 0, none⟩) 16 cm, u14, .slice (some ⟨gv, 0, none⟩) 16 cv, u16, u17, .string P, u19, u20, u21, u22, u23, u24, u25, u26, u27, u28, u29, u30, u31, u32, u33, u34, u35, u36, u37, u38, u39, u40, u41, u42, u43, u44, u45, u46, u47, u48, u49, u50, u51, u52, u53, u54, u55, u56, u57, u58, u59, u60, u61, u62, u63, u64, u65, u66, u67, u68, u69, u70, u71, u72, u73, u74, u75, u76, u77, u78, u79, u80, u81, u82, u83, u84, u85, u86, u87, u88, u89, u90, u91, u92, u93, u94, u95, u96, u97, u98, u99, u100, u101, u102, u103, u104, u105, u106, u107, u108, u109, u110, u111, u112, u113, u114, u115, u116, u117, u118, u119, u120, u121, u122, u123, u124, u125, u126, u127, u128, u129, u130, u131, u132, u133, u134, u135, u136, u137, u138, u139, u140, u141, u142, u143, u144, u145, u146, u147, u148, u149, u150, u151, u152, u153, u154, u155, u156, u157, u158, u159, u160, u161, u162, u163, u164, u165, u166, u167, u168, u169, u170, u171, u172, u173, u174, u175, u176, u177, u178, u179, u180, u181, u182, u183, u184, u185, u186, u187, u188, u189, u190, u191, u192, u193, u194, u195, u196, u197, u198, u199, u200, u201, u202, u203, u204, u205, x206, x207, x208, x209, x210, x211, x212, x213, x214, x215, x216, x217, x218, x219, u220, u221, u222, u223, u224, u225, u226, u227, u228, u229, u230, u231, u232, u233, u234, u235, u236, u237, u238, u239, u240, u241, u242, u243, u244, u245, u246, u247, u248, u249, u250, u251, u252, u253, u254, u255, u256, u257, u258, u259, u260, u261, u262, u263, u264, u265, u266, u267, u268, u269, u270, u271, u272, u273, u274, u275, u276, u277, u278, u279, u280, u281, u282, u283, u284, u285, u286, u287, u288, u289, u290, u291, u292, u293, u294, u295, u296, u297, u298, u299, u300, u301, u302, u303, u304, u305, u306, u307, u308, u309, u310, u311, u312, u313, u314, u315, u316, u317, u318, u319, u320, u321, u322, u323, u324, u325, u326, u327, u328, u329, u330, u331, u332], []⟩ w') :
    Code.wp Tryd.prog (kReg 36) (Exit.then K Q) ⟨#[u0, u1, u2, u3, u4, u5, u6, u7, u8, u9, u10, u11, u12, .slice (some ⟨gm, 0, none⟩) 16 cm, u14, .slice (some ⟨gv, 0, none⟩) 16 cv, u16, u17, .string P, u19, u20, u21, u22, u23, u24, u25, u26, u27, u28, u29, u30, u31, u32, u33, u34, u35, u36, u37, u38, u39, u40, u41, u42, u43, u44, u45, u46, u47, u48, u49, u50, u51, u52, u53, u54, u55, u56, u57, u58, u59, u60, u61, u62, u63, u64, u65, u66, u67, u68, u69, u70, u71, u72, u73, u74, u75, u76, u77, u78, u79, u80, u81, u82, u83, u84, u85, u86, u87, u88, u89, u90, u91, u92, u93, u94, u95, u96, u97, u98, u99, u100, u101, u102, u103, u104, u105, u106, u107, u108, u109, u110, u111, u112, u113, u114, u115, u116, u117, u118, u119, u120, u121, u122, u123, u124, u125, u126, u127, u128, u129, u130, u131, u132, u133, u134, u135, u136, u137, u138, u139, u140, u141, u142, u143, u144, u145, u146, u147, u148, u149, u150, u151, u152, u153, u154, u155, u156, u157, u158, u159, u160, u161, u162, u163, u164, u165, u166, u167, u168, u169, u170, u171, u172, u173, u174, u175, u176, u177, u178, u179, u180, u181, u182, u183, u184, u185, u186, u187, u188, u189, u190, u191, u192, u193, u194, u195, u196, u197, u198, u199, u200, u201, u202, u203, u204, u205, u206, u207, u208, u209, u210, u211, u212, u213, u214, u215, u216, u217, u218, u219, u220, u221, u222, u223, u224, u225, u226, u227, u228, u229, u230, u231, u232, u233, u234, u235, u236, u237, u238, u239, u240, u241, u242, u243, u244, u245, u246, u247, u248, u249, u250, u251, u252, u253, u254, u255, u256, u257, u258, u259, u260, u261, u262, u263, u264, u265, u266, u267, u268, u269, u270, u271, u272, u273, u274, u275, u276, u277, u278, u279, u280, u281, u282, u283, u284, u285, u286, u287, u288, u289, u290, u291, u292, u293, u294, u295, u296, u297, u298, u299, u300, u301, u302, u303, u304, u305, u306, u307, u308, u309, u310, u311, u312, u313, u314, u315, u316, u317, u318, u319, u320, u321, u322, u323, u324, u325, u326, u327, u328, u329, u330, u331, u332], []⟩ W := by
  have HK := Aside0.mk hK
  have HQ := Aside0.mk hQ
  have HV := Aside0.mk hV
  have HL := Aside0.mk hl
  have HNE := Aside0.mk hne
  have Ht0 := Aside0.mk ht0
  have Ht1 := Aside0.mk ht1
  obtain ⟨x, hx⟩ : ∃ x, x = Ms.getD t0.toNat 0 := ⟨_, rfl⟩
  obtain ⟨y, hy⟩ : ∃ y, y = Ms.getD t1.toNat 0 := ⟨_, rfl⟩
  have hx0 : W.cell? ⟨gm, (t0).toNat, none⟩ = some (.int .u32 x) := by rw [hx]; exact hm _ (by omega)
  have hx1 : W.cell? ⟨gm, (t1).toNat, none⟩ = some (.int .u32 y) := by rw [hy]; exact hm _ (by omega)
  have HX := Aside0.mk (And.intro hx hy)
  have p0 := eq_true h00
  have q0 := eq_true h01
  have p1 := eq_true h10
  have q1 := eq_true h11
  have pa := eq_true (show 6 < P.size by omega)
  have qa := eq_true (show ((6 : Int) < (P.size : Int)) by omega)
  have pb := eq_true (show 7 < P.size by omega)
  have qb := eq_true (show ((7 : Int) < (P.size : Int)) by omega)
  have ra : ∀ h : 6 < P.size, (((P[6]'h).toNat : Nat) : Int) = bt P 6 := bt_at P 6
  have rb : ∀ h : 7 < P.size, (((P[7]'h).toNat : Nat) : Int) = bt P 7 := bt_at P 7
  clear hP hm hK hQ hV hl hne ht0 ht1 hx hy h00 h01 h10 h11
  conv => arg 2; whnf
  refine start_ (n := 14) (S := fun w' => w'.cell? ⟨gm, (t0).toNat, none⟩ = some (.int .u32 x) ∧ w'.cell? ⟨gm, (t1).toNat, none⟩ = some (.int .u32 y)) (ds := []) #[false, false, false, false, false, false, false, false, false, false, false, false, false, false] (by kernel_rfl) rfl rfl ⟨hx0, hx1⟩ (fun hHeld => ?_); refine with_tabW kt36 kb36 (fun HT_ HW_ => ?_)
  have HVd := Aside0.mk HV.out.drew
  clear hx0 hx1
  obtain ⟨wd, hwd⟩ : ∃ W', W' = W.drew := ⟨_, rfl⟩
  rw [← hwd] at HVd hHeld ⊢
  have HWD := Aside0.mk hwd
  clear hwd
  refine pure_ (i := 0) (N := some 206) (v := ?_) (a' := ?_) #[true, false, false, false, false, false, false, false, false, false, false, false, false, false] rfl rfl (any_of HT_.out (by kernel_rfl)) (fun _ _ _ h => HQ.out _ _ _ _ h rfl) (Or.inl ⟨by rfl, ?_⟩) ?_ ?_
  rotate_left
  · intro w'
    go_simp
    with_reducible rfl
  rotate_left
  · simp only [Act.put, List.setIfInBounds_toArray, List.set_cons_zero, List.set_cons_succ, i64_w, i32_w]
    rfl
  refine pure_ (i := 1) (N := some 207) (v := ?_) (a' := ?_) #[true, true, false, false, false, false, false, false, false, false, false, false, false, false] rfl rfl (any_of HT_.out (by kernel_rfl)) (fun _ _ _ h => HQ.out _ _ _ _ h rfl) (Or.inl ⟨by rfl, ?_⟩) ?_ ?_
  rotate_left
  · intro w'
    go_simp
    with_reducible rfl
  rotate_left
  · simp only [Act.put, List.setIfInBounds_toArray, List.set_cons_zero, List.set_cons_succ, i64_w, i32_w]
    rfl
  refine pure_ (i := 2) (N := some 208) (v := ?_) (a' := ?_) #[true, true, true, false, false, false, false, false, false, false, false, false, false, false] rfl rfl (any_of HT_.out (by kernel_rfl)) (fun _ _ _ h => HQ.out _ _ _ _ h rfl) (Or.inl ⟨by rfl, ?_⟩) ?_ ?_
  rotate_left
  · intro w'
    go_simp
    with_reducible rfl
  rotate_left
  · simp only [Act.put, List.setIfInBounds_toArray, List.set_cons_zero, List.set_cons_succ, i64_w, i32_w]
    rfl
  refine pure_ (i := 7) (N := some 213) (v := ?_) (a' := ?_) #[true, true, true, false, false, false, false, true, false, false, false, false, false, false] rfl rfl (any_of HT_.out (by kernel_rfl)) (fun _ _ _ h => HQ.out _ _ _ _ h rfl) (Or.inl ⟨by rfl, ?_⟩) ?_ ?_
  rotate_left
  · intro w'
    go_simp
    with_reducible rfl
  rotate_left
  · simp only [Act.put, List.setIfInBounds_toArray, List.set_cons_zero, List.set_cons_succ, i64_w, i32_w]
    rfl
  refine pure_ (i := 8) (N := some 214) (v := ?_) (a' := ?_) #[true, true, true, false, false, false, false, true, true, false, false, false, false, false] rfl rfl (any_of HT_.out (by kernel_rfl)) (fun _ _ _ h => HQ.out _ _ _ _ h rfl) (Or.inl ⟨by rfl, ?_⟩) ?_ ?_
  rotate_left
  · intro w'
    go_simp
    with_reducible rfl
  rotate_left
  · simp only [Act.put, List.setIfInBounds_toArray, List.set_cons_zero, List.set_cons_succ, i64_w, i32_w]
    rfl
  refine take_ (i := 3) (N := some 209) (v := ?_) (a' := ?_) #[true, true, true, true, false, false, false, true, true, false, false, false, false, false] rfl rfl (take_ofW HT_.out HW_.out (by kernel_rfl)) (fun _ _ _ h => HQ.out _ _ _ _ h rfl) (Or.inl ⟨by rfl, ?_⟩) hHeld ?_ ?_
  rotate_left
  · rintro w' ⟨s0, s1⟩
    go_simp
    with_reducible rfl
  rotate_left
  · simp only [Act.put, List.setIfInBounds_toArray, List.set_cons_zero, List.set_cons_succ, i64_w, i32_w]
    rfl
  refine take_ (i := 9) (N := some 215) (v := ?_) (a' := ?_) #[true, true, true, true, false, false, false, true, true, true, false, false, false, false] rfl rfl (take_ofW HT_.out HW_.out (by kernel_rfl)) (fun _ _ _ h => HQ.out _ _ _ _ h rfl) (Or.inl ⟨by rfl, ?_⟩) hHeld ?_ ?_
  rotate_left
  · rintro w' ⟨s0, s1⟩
    go_simp
    with_reducible rfl
  rotate_left
  · simp only [Act.put, List.setIfInBounds_toArray, List.set_cons_zero, List.set_cons_succ, i64_w, i32_w]
    rfl
  refine one_ (i := 4) (N := some 210) #[true, true, true, true, true, false, false, true, true, true, false, false, false, false] rfl rfl (one_of HT_.out (by kernel_rfl)) (by decide) (fun K hK => ?_)
  refine goes_ Tryd.func50 (by kernel_rfl) rfl #[.int .u8 (bt P 6)] (by rfl) rfl rfl (by (try simp only [List.map_toArray, List.map_cons, List.map_nil]); first | done | rfl) ?_
  with_reducible refine (hamperref05_place.calls (bt P 6) t0 _ Ht0.out).mono ?_
  rintro e w' ⟨rfl, ⟨n0, rfl⟩⟩
  refine ⟨_, rfl, ?_⟩
  refine hK.out _ _ ⟨hHeld.1, hHeld.2⟩ (fun hHeld => ?_)
  clear hK K
  refine norm_ (a' := ?_) ?_ ?_
  rotate_left
  · show Act.put _ (some 210) _ = _
    simp only [Act.put, List.setIfInBounds_toArray, List.set_cons_zero, List.set_cons_succ, i64_w, i32_w]
    rfl
  refine pure_ (i := 5) (N := some 211) (v := ?_) (a' := ?_) #[true, true, true, true, true, true, false, true, true, true, false, false, false, false] rfl rfl (any_of HT_.out (by kernel_rfl)) (fun _ _ _ h => HQ.out _ _ _ _ h rfl) (Or.inl ⟨by rfl, ?_⟩) ?_ ?_
  rotate_left
  · intro w'
    go_simp
    with_reducible rfl
  rotate_left
  · simp only [Act.put, List.setIfInBounds_toArray, List.set_cons_zero, List.set_cons_succ, i64_w, i32_w]
    rfl
  refine take_ (i := 6) (N := some 212) (v := ?_) (a' := ?_) #[true, true, true, true, true, true, true, true, true, true, false, false, false, false] rfl rfl (take_ofW HT_.out HW_.out (by kernel_rfl)) (fun _ _ _ h => HQ.out _ _ _ _ h rfl) (Or.inl ⟨by rfl, ?_⟩) hHeld ?_ ?_
  rotate_left
  · rintro w' ⟨s0, s1⟩
    go_simp
    with_reducible rfl
  rotate_left
  · simp only [Act.put, List.setIfInBounds_toArray, List.set_cons_zero, List.set_cons_succ, i64_w, i32_w]
    rfl
  refine one_ (i := 10) (N := some 216) #[true, true, true, true, true, true, true, true, true, true, true, false, false, false] rfl rfl (one_of HT_.out (by kernel_rfl)) (by decide) (fun K hK => ?_)
  refine goes_ Tryd.func50 (by kernel_rfl) rfl #[.int .u8 (bt P 7)] (by rfl) rfl rfl (by (try simp only [List.map_toArray, List.map_cons, List.map_nil]); first | done | rfl) ?_
  with_reducible refine (hamperref05_place.calls (bt P 7) t1 _ Ht1.out).mono ?_
  rintro e w' ⟨rfl, ⟨n1, rfl⟩⟩
  refine ⟨_, rfl, ?_⟩
  refine hK.out _ _ ⟨hHeld.1, hHeld.2⟩ (fun hHeld => ?_)
  clear hK K
  refine norm_ (a' := ?_) ?_ ?_
  rotate_left
  · show Act.put _ (some 216) _ = _
    simp only [Act.put, List.setIfInBounds_toArray, List.set_cons_zero, List.set_cons_succ, i64_w, i32_w]
    rfl
  refine pure_ (i := 11) (N := some 217) (v := ?_) (a' := ?_) #[true, true, true, true, true, true, true, true, true, true, true, true, false, false] rfl rfl (any_of HT_.out (by kernel_rfl)) (fun _ _ _ h => HQ.out _ _ _ _ h rfl) (Or.inl ⟨by rfl, ?_⟩) ?_ ?_
  rotate_left
  · intro w'
    go_simp
    with_reducible rfl
  rotate_left
  · simp only [Act.put, List.setIfInBounds_toArray, List.set_cons_zero, List.set_cons_succ, i64_w, i32_w]
    rfl
  refine take_ (i := 12) (N := some 218) (v := ?_) (a' := ?_) #[true, true, true, true, true, true, true, true, true, true, true, true, true, false] rfl rfl (take_ofW HT_.out HW_.out (by kernel_rfl)) (fun _ _ _ h => HQ.out _ _ _ _ h rfl) (Or.inl ⟨by rfl, ?_⟩) hHeld ?_ ?_
  rotate_left
  · rintro w' ⟨s0, s1⟩
    go_simp
    with_reducible rfl
  rotate_left
  · simp only [Act.put, List.setIfInBounds_toArray, List.set_cons_zero, List.set_cons_succ, i64_w, i32_w]
    rfl
  refine one_ (i := 13) (N := some 219) #[true, true, true, true, true, true, true, true, true, true, true, true, true, true] rfl rfl (one_of HT_.out (by kernel_rfl)) (by decide) (fun K hK => ?_)
  refine goes_ Tryd.func49 (by kernel_rfl) rfl #[.slice (some ⟨gv, 0, none⟩) 16 cv, .int .i64 3, .int .i64 7, .int .i64 11, .int .i64 15, .int .u32 x, .int .u32 y] (by rfl) rfl rfl (by (try simp only [List.map_toArray, List.map_cons, List.map_nil]); first | done | rfl) ?_
  have hc := mix_calls gv cv V 3 7 11 15 x y ((wd.drewN n0).drewN n1) ((HVd.out.drewN n0).drewN n1) HL.out (by decide) (by decide) (by decide) (by decide) (by decide) (by decide) (by decide) (by decide) (by decide) (by decide)
  refine Calls.mono (show Calls _ _ _ _ _ from hc) ?_
  rintro e w5 ⟨rfl, hv, hk⟩
  refine ⟨_, rfl, ?_⟩
  have hs0 := Bk.keep_cell hk hHeld.1 HNE.out
  have hs1 := Bk.keep_cell hk hHeld.2 HNE.out
  have HV5 := Aside0.mk hv
  have HK5 := Aside0.mk hk
  clear hv hk hc
  refine hK.out _ _ ⟨hs0, hs1⟩ (fun hHeld => ?_)
  clear hK K
  refine norm_ (a' := ?_) ?_ ?_
  rotate_left
  · show Act.put _ (some 219) _ = _
    simp only [Act.put, List.setIfInBounds_toArray, List.set_cons_zero, List.set_cons_succ, i64_w, i32_w]
    rfl
  refine done_ (done_of HT_.out (by kernel_rfl)) ?_
  go_wp2_with fail
  refine HK.out _ _ _ _ _ _ _ _ _ _ _ _ _ _ _ ?_ ?_
  · rw [← HX.out.1, ← HX.out.2]
    exact HV5.out
  · have hk := HK5.out
    rw [HWD.out] at hk
    exact ⟨hk.size, hk.block, hk.os, hk.tape, hk.output⟩
set_option maxHeartbeats 8000000 in
set_option maxRecDepth 1000000 in
theorem m_mix4 {u0 u1 u2 u3 u4 u5 u6 u7 u8 u9 u10 u11 u12 u14 u16 u17 u19 u20 u21 u22 u23 u24 u25 u26 u27 u28 u29 u30 u31 u32 u33 u34 u35 u36 u37 u38 u39 u40 u41 u42 u43 u44 u45 u46 u47 u48 u49 u50 u51 u52 u53 u54 u55 u56 u57 u58 u59 u60 u61 u62 u63 u64 u65 u66 u67 u68 u69 u70 u71 u72 u73 u74 u75 u76 u77 u78 u79 u80 u81 u82 u83 u84 u85 u86 u87 u88 u89 u90 u91 u92 u93 u94 u95 u96 u97 u98 u99 u100 u101 u102 u103 u104 u105 u106 u107 u108 u109 u110 u111 u112 u113 u114 u115 u116 u117 u118 u119 u120 u121 u122 u123 u124 u125 u126 u127 u128 u129 u130 u131 u132 u133 u134 u135 u136 u137 u138 u139 u140 u141 u142 u143 u144 u145 u146 u147 u148 u149 u150 u151 u152 u153 u154 u155 u156 u157 u158 u159 u160 u161 u162 u163 u164 u165 u166 u167 u168 u169 u170 u171 u172 u173 u174 u175 u176 u177 u178 u179 u180 u181 u182 u183 u184 u185 u186 u187 u188 u189 u190 u191 u192 u193 u194 u195 u196 u197 u198 u199 u200 u201 u202 u203 u204 u205 u206 u207 u208 u209 u210 u211 u212 u213 u214 u215 u216 u217 u218 u219 u220 u221 u222 u223 u224 u225 u226 u227 u228 u229 u230 u231 u232 u233 u234 u235 u236 u237 u238 u239 u240 u241 u242 u243 u244 u245 u246 u247 u248 u249 u250 u251 u252 u253 u254 u255 u256 u257 u258 u259 u260 u261 u262 u263 u264 u265 u266 u267 u268 u269 u270 u271 u272 u273 u274 u275 u276 u277 u278 u279 u280 u281 u282 u283 u284 u285 u286 u287 u288 u289 u290 u291 u292 u293 u294 u295 u296 u297 u298 u299 u300 u301 u302 u303 u304 u305 u306 u307 u308 u309 u310 u311 u312 u313 u314 u315 u316 u317 u318 u319 u320 u321 u322 u323 u324 u325 u326 u327 u328 u329 u330 u331 u332 : Value} (gv cv gm cm : Nat) (P : ByteArray) (V Ms : List Int) (t0 t1 : Int) (W : World) (hP : P.size = 16) (ht0 : hamperref05_place.f (bt P 8) = some t0) (ht1 : hamperref05_place.f (bt P 9) = some t1) (h00 : 0 ≤ t0) (h01 : t0 < 16) (h10 : 0 ≤ t1) (h11 : t1 < 16)
    (hm : ∀ j, j < 16 → W.cell? ⟨gm, j, none⟩ = some (.int .u32 (Ms.getD j 0))) (hne : gm ≠ gv) (hl : V.length = 16) (hV : VAt W gv V) {K : Act → World → Prop} {Q : Exit → Act → World → Prop} (hQ : ∀ c a a' w, Q (Exit.panic c) a w → a.defers = a'.defers → Q (Exit.panic c) a' w)
    (hK : ∀ (x220 x221 x222 x223 x224 x225 x226 x227 x228 x229 x230 x231 x232 x233 : Value) (w' : World), VAt w' gv (mixL V 0 5 10 15 (Ms.getD t0.toNat 0) (Ms.getD t1.toNat 0)) → Bk.KeepBut W w' gv none → K ⟨#[u0, u1, u2, u3, u4, u5, u6, u7, u8, u9, u10, u11, u12, .slice (some ⟨gm, 0, none⟩) 16 cm, u14, .slice (some ⟨gv, 0, none⟩) 16 cv, u16, u17, .string P, u19, u20, u21, u22, u23, u24, u25, u26, u27, u28, u29, u30, u31, u32, u33, u34, u35, u36, u37, u38, u39, u40, u41, u42, u43, u44, u45, u46, u47, u48, u49, u50, u51, u52, u53, u54, u55, u56, u57, u58, u59, u60, u61, u62, u63, u64, u65, u66, u67, u68, u69, u70, u71, u72, u73, u74, u75, u76, u77, u78, u79, u80, u81, u82, u83, u84, u85, u86, u87, u88, u89, u90, u91, u92, u93, u94, u95, u96, u97, u98, u99, u100, u101, u102, u103, u104, u105, u106, u107, u108, u109, u110, u111, u112, u113, u114, u115, u116, u117, u118, u119, u120, u121, u122, u123, u124, u125, u126, u127, u128, u129, u130, u131, u132, u133, u134, u135, u136, u137, u138, u139, u140, u141, u142, u143, u144, u145, u146, u147, u148, u149, u150, u151, u152, u153, u154, u155, u156, u157, u158, u159, u160, u161, u162, u163, u164, u165, u166, u167, u168, u169, u170, u171, u172, u173, u174, u175, u176, u177, u178, u179, u180, u181, u182, u183, u184, u185, u186, u187, u188, u189, u190, u191, u192, u193, u194, u195, u196, u197, u198, u199, u200, u201, u202, u203, u204, u205, u206, u207, u208, u209, u210, u211, u212, u213, u214, u215, u216, u217, u218, u219, x220, x221, x222, x223, x224, x225, x226, x227, x228, x229, x230, x231, x232, x233, u234, u235, u236, u237, u238, u239, u240, u241, u242, u243, u244, u245, u246, u247, u248, u249, u250, u251, u252, u253, u254, u255, u256, u257, u258, u259, u260, u261, u262, u263, u264, u265, u266, u267, u268, u269, u270, u271, u272, u273, u274, u275, u276, u277, u278, u279, u280, u281, u282, u283, u284, u285, u286, u287, u288, u289, u290, u291, u292, u293, u294, u295, u296, u297, u298, u299, u300, u301, u302, u303, u304, u305, u306, u307, u308, u309, u310, u311, u312, u313, u314, u315, u316, u317, u318, u319, u320, u321, u322, u323, u324, u325, u326, u327, u328, u329, u330, u331, u332], []⟩ w') :
    Code.wp Tryd.prog (kReg 37) (Exit.then K Q) ⟨#[u0, u1, u2, u3, u4, u5, u6, u7, u8, u9, u10, u11, u12, .slice (some ⟨gm, 0, none⟩) 16 cm, u14, .slice (some ⟨gv, 0, none⟩) 16 cv, u16, u17, .string P, u19, u20, u21, u22, u23, u24, u25, u26, u27, u28, u29, u30, u31, u32, u33, u34, u35, u36, u37, u38, u39, u40, u41, u42, u43, u44, u45, u46, u47, u48, u49, u50, u51, u52, u53, u54, u55, u56, u57, u58, u59, u60, u61, u62, u63, u64, u65, u66, u67, u68, u69, u70, u71, u72, u73, u74, u75, u76, u77, u78, u79, u80, u81, u82, u83, u84, u85, u86, u87, u88, u89, u90, u91, u92, u93, u94, u95, u96, u97, u98, u99, u100, u101, u102, u103, u104, u105, u106, u107, u108, u109, u110, u111, u112, u113, u114, u115, u116, u117, u118, u119, u120, u121, u122, u123, u124, u125, u126, u127, u128, u129, u130, u131, u132, u133, u134, u135, u136, u137, u138, u139, u140, u141, u142, u143, u144, u145, u146, u147, u148, u149, u150, u151, u152, u153, u154, u155, u156, u157, u158, u159, u160, u161, u162, u163, u164, u165, u166, u167, u168, u169, u170, u171, u172, u173, u174, u175, u176, u177, u178, u179, u180, u181, u182, u183, u184, u185, u186, u187, u188, u189, u190, u191, u192, u193, u194, u195, u196, u197, u198, u199, u200, u201, u202, u203, u204, u205, u206, u207, u208, u209, u210, u211, u212, u213, u214, u215, u216, u217, u218, u219, u220, u221, u222, u223, u224, u225, u226, u227, u228, u229, u230, u231, u232, u233, u234, u235, u236, u237, u238, u239, u240, u241, u242, u243, u244, u245, u246, u247, u248, u249, u250, u251, u252, u253, u254, u255, u256, u257, u258, u259, u260, u261, u262, u263, u264, u265, u266, u267, u268, u269, u270, u271, u272, u273, u274, u275, u276, u277, u278, u279, u280, u281, u282, u283, u284, u285, u286, u287, u288, u289, u290, u291, u292, u293, u294, u295, u296, u297, u298, u299, u300, u301, u302, u303, u304, u305, u306, u307, u308, u309, u310, u311, u312, u313, u314, u315, u316, u317, u318, u319, u320, u321, u322, u323, u324, u325, u326, u327, u328, u329, u330, u331, u332], []⟩ W := by
  have HK := Aside0.mk hK
  have HQ := Aside0.mk hQ
  have HV := Aside0.mk hV
  have HL := Aside0.mk hl
  have HNE := Aside0.mk hne
  have Ht0 := Aside0.mk ht0
  have Ht1 := Aside0.mk ht1
  obtain ⟨x, hx⟩ : ∃ x, x = Ms.getD t0.toNat 0 := ⟨_, rfl⟩
  obtain ⟨y, hy⟩ : ∃ y, y = Ms.getD t1.toNat 0 := ⟨_, rfl⟩
  have hx0 : W.cell? ⟨gm, (t0).toNat, none⟩ = some (.int .u32 x) := by rw [hx]; exact hm _ (by omega)
  have hx1 : W.cell? ⟨gm, (t1).toNat, none⟩ = some (.int .u32 y) := by rw [hy]; exact hm _ (by omega)
  have HX := Aside0.mk (And.intro hx hy)
  have p0 := eq_true h00
  have q0 := eq_true h01
  have p1 := eq_true h10
  have q1 := eq_true h11
  have pa := eq_true (show 8 < P.size by omega)
  have qa := eq_true (show ((8 : Int) < (P.size : Int)) by omega)
  have pb := eq_true (show 9 < P.size by omega)
  have qb := eq_true (show ((9 : Int) < (P.size : Int)) by omega)
  have ra : ∀ h : 8 < P.size, (((P[8]'h).toNat : Nat) : Int) = bt P 8 := bt_at P 8
  have rb : ∀ h : 9 < P.size, (((P[9]'h).toNat : Nat) : Int) = bt P 9 := bt_at P 9
  clear hP hm hK hQ hV hl hne ht0 ht1 hx hy h00 h01 h10 h11
  conv => arg 2; whnf
  refine start_ (n := 14) (S := fun w' => w'.cell? ⟨gm, (t0).toNat, none⟩ = some (.int .u32 x) ∧ w'.cell? ⟨gm, (t1).toNat, none⟩ = some (.int .u32 y)) (ds := []) #[false, false, false, false, false, false, false, false, false, false, false, false, false, false] (by kernel_rfl) rfl rfl ⟨hx0, hx1⟩ (fun hHeld => ?_); refine with_tabW kt37 kb37 (fun HT_ HW_ => ?_)
  have HVd := Aside0.mk HV.out.drew
  clear hx0 hx1
  obtain ⟨wd, hwd⟩ : ∃ W', W' = W.drew := ⟨_, rfl⟩
  rw [← hwd] at HVd hHeld ⊢
  have HWD := Aside0.mk hwd
  clear hwd
  refine pure_ (i := 0) (N := some 220) (v := ?_) (a' := ?_) #[true, false, false, false, false, false, false, false, false, false, false, false, false, false] rfl rfl (any_of HT_.out (by kernel_rfl)) (fun _ _ _ h => HQ.out _ _ _ _ h rfl) (Or.inl ⟨by rfl, ?_⟩) ?_ ?_
  rotate_left
  · intro w'
    go_simp
    with_reducible rfl
  rotate_left
  · simp only [Act.put, List.setIfInBounds_toArray, List.set_cons_zero, List.set_cons_succ, i64_w, i32_w]
    rfl
  refine pure_ (i := 1) (N := some 221) (v := ?_) (a' := ?_) #[true, true, false, false, false, false, false, false, false, false, false, false, false, false] rfl rfl (any_of HT_.out (by kernel_rfl)) (fun _ _ _ h => HQ.out _ _ _ _ h rfl) (Or.inl ⟨by rfl, ?_⟩) ?_ ?_
  rotate_left
  · intro w'
    go_simp
    with_reducible rfl
  rotate_left
  · simp only [Act.put, List.setIfInBounds_toArray, List.set_cons_zero, List.set_cons_succ, i64_w, i32_w]
    rfl
  refine pure_ (i := 2) (N := some 222) (v := ?_) (a' := ?_) #[true, true, true, false, false, false, false, false, false, false, false, false, false, false] rfl rfl (any_of HT_.out (by kernel_rfl)) (fun _ _ _ h => HQ.out _ _ _ _ h rfl) (Or.inl ⟨by rfl, ?_⟩) ?_ ?_
  rotate_left
  · intro w'
    go_simp
    with_reducible rfl
  rotate_left
  · simp only [Act.put, List.setIfInBounds_toArray, List.set_cons_zero, List.set_cons_succ, i64_w, i32_w]
    rfl
  refine pure_ (i := 7) (N := some 227) (v := ?_) (a' := ?_) #[true, true, true, false, false, false, false, true, false, false, false, false, false, false] rfl rfl (any_of HT_.out (by kernel_rfl)) (fun _ _ _ h => HQ.out _ _ _ _ h rfl) (Or.inl ⟨by rfl, ?_⟩) ?_ ?_
  rotate_left
  · intro w'
    go_simp
    with_reducible rfl
  rotate_left
  · simp only [Act.put, List.setIfInBounds_toArray, List.set_cons_zero, List.set_cons_succ, i64_w, i32_w]
    rfl
  refine pure_ (i := 8) (N := some 228) (v := ?_) (a' := ?_) #[true, true, true, false, false, false, false, true, true, false, false, false, false, false] rfl rfl (any_of HT_.out (by kernel_rfl)) (fun _ _ _ h => HQ.out _ _ _ _ h rfl) (Or.inl ⟨by rfl, ?_⟩) ?_ ?_
  rotate_left
  · intro w'
    go_simp
    with_reducible rfl
  rotate_left
  · simp only [Act.put, List.setIfInBounds_toArray, List.set_cons_zero, List.set_cons_succ, i64_w, i32_w]
    rfl
  refine take_ (i := 3) (N := some 223) (v := ?_) (a' := ?_) #[true, true, true, true, false, false, false, true, true, false, false, false, false, false] rfl rfl (take_ofW HT_.out HW_.out (by kernel_rfl)) (fun _ _ _ h => HQ.out _ _ _ _ h rfl) (Or.inl ⟨by rfl, ?_⟩) hHeld ?_ ?_
  rotate_left
  · rintro w' ⟨s0, s1⟩
    go_simp
    with_reducible rfl
  rotate_left
  · simp only [Act.put, List.setIfInBounds_toArray, List.set_cons_zero, List.set_cons_succ, i64_w, i32_w]
    rfl
  refine take_ (i := 9) (N := some 229) (v := ?_) (a' := ?_) #[true, true, true, true, false, false, false, true, true, true, false, false, false, false] rfl rfl (take_ofW HT_.out HW_.out (by kernel_rfl)) (fun _ _ _ h => HQ.out _ _ _ _ h rfl) (Or.inl ⟨by rfl, ?_⟩) hHeld ?_ ?_
  rotate_left
  · rintro w' ⟨s0, s1⟩
    go_simp
    with_reducible rfl
  rotate_left
  · simp only [Act.put, List.setIfInBounds_toArray, List.set_cons_zero, List.set_cons_succ, i64_w, i32_w]
    rfl
  refine one_ (i := 4) (N := some 224) #[true, true, true, true, true, false, false, true, true, true, false, false, false, false] rfl rfl (one_of HT_.out (by kernel_rfl)) (by decide) (fun K hK => ?_)
  refine goes_ Tryd.func50 (by kernel_rfl) rfl #[.int .u8 (bt P 8)] (by rfl) rfl rfl (by (try simp only [List.map_toArray, List.map_cons, List.map_nil]); first | done | rfl) ?_
  with_reducible refine (hamperref05_place.calls (bt P 8) t0 _ Ht0.out).mono ?_
  rintro e w' ⟨rfl, ⟨n0, rfl⟩⟩
  refine ⟨_, rfl, ?_⟩
  refine hK.out _ _ ⟨hHeld.1, hHeld.2⟩ (fun hHeld => ?_)
  clear hK K
  refine norm_ (a' := ?_) ?_ ?_
  rotate_left
  · show Act.put _ (some 224) _ = _
    simp only [Act.put, List.setIfInBounds_toArray, List.set_cons_zero, List.set_cons_succ, i64_w, i32_w]
    rfl
  refine pure_ (i := 5) (N := some 225) (v := ?_) (a' := ?_) #[true, true, true, true, true, true, false, true, true, true, false, false, false, false] rfl rfl (any_of HT_.out (by kernel_rfl)) (fun _ _ _ h => HQ.out _ _ _ _ h rfl) (Or.inl ⟨by rfl, ?_⟩) ?_ ?_
  rotate_left
  · intro w'
    go_simp
    with_reducible rfl
  rotate_left
  · simp only [Act.put, List.setIfInBounds_toArray, List.set_cons_zero, List.set_cons_succ, i64_w, i32_w]
    rfl
  refine take_ (i := 6) (N := some 226) (v := ?_) (a' := ?_) #[true, true, true, true, true, true, true, true, true, true, false, false, false, false] rfl rfl (take_ofW HT_.out HW_.out (by kernel_rfl)) (fun _ _ _ h => HQ.out _ _ _ _ h rfl) (Or.inl ⟨by rfl, ?_⟩) hHeld ?_ ?_
  rotate_left
  · rintro w' ⟨s0, s1⟩
    go_simp
    with_reducible rfl
  rotate_left
  · simp only [Act.put, List.setIfInBounds_toArray, List.set_cons_zero, List.set_cons_succ, i64_w, i32_w]
    rfl
  refine one_ (i := 10) (N := some 230) #[true, true, true, true, true, true, true, true, true, true, true, false, false, false] rfl rfl (one_of HT_.out (by kernel_rfl)) (by decide) (fun K hK => ?_)
  refine goes_ Tryd.func50 (by kernel_rfl) rfl #[.int .u8 (bt P 9)] (by rfl) rfl rfl (by (try simp only [List.map_toArray, List.map_cons, List.map_nil]); first | done | rfl) ?_
  with_reducible refine (hamperref05_place.calls (bt P 9) t1 _ Ht1.out).mono ?_
  rintro e w' ⟨rfl, ⟨n1, rfl⟩⟩
  refine ⟨_, rfl, ?_⟩
  refine hK.out _ _ ⟨hHeld.1, hHeld.2⟩ (fun hHeld => ?_)
  clear hK K
  refine norm_ (a' := ?_) ?_ ?_
  rotate_left
  · show Act.put _ (some 230) _ = _
    simp only [Act.put, List.setIfInBounds_toArray, List.set_cons_zero, List.set_cons_succ, i64_w, i32_w]
    rfl
  refine pure_ (i := 11) (N := some 231) (v := ?_) (a' := ?_) #[true, true, true, true, true, true, true, true, true, true, true, true, false, false] rfl rfl (any_of HT_.out (by kernel_rfl)) (fun _ _ _ h => HQ.out _ _ _ _ h rfl) (Or.inl ⟨by rfl, ?_⟩) ?_ ?_
  rotate_left
  · intro w'
    go_simp
    with_reducible rfl
  rotate_left
  · simp only [Act.put, List.setIfInBounds_toArray, List.set_cons_zero, List.set_cons_succ, i64_w, i32_w]
    rfl
  refine take_ (i := 12) (N := some 232) (v := ?_) (a' := ?_) #[true, true, true, true, true, true, true, true, true, true, true, true, true, false] rfl rfl (take_ofW HT_.out HW_.out (by kernel_rfl)) (fun _ _ _ h => HQ.out _ _ _ _ h rfl) (Or.inl ⟨by rfl, ?_⟩) hHeld ?_ ?_
  rotate_left
  · rintro w' ⟨s0, s1⟩
    go_simp
    with_reducible rfl
  rotate_left
  · simp only [Act.put, List.setIfInBounds_toArray, List.set_cons_zero, List.set_cons_succ, i64_w, i32_w]
    rfl
  refine one_ (i := 13) (N := some 233) #[true, true, true, true, true, true, true, true, true, true, true, true, true, true] rfl rfl (one_of HT_.out (by kernel_rfl)) (by decide) (fun K hK => ?_)
  refine goes_ Tryd.func49 (by kernel_rfl) rfl #[.slice (some ⟨gv, 0, none⟩) 16 cv, .int .i64 0, .int .i64 5, .int .i64 10, .int .i64 15, .int .u32 x, .int .u32 y] (by rfl) rfl rfl (by (try simp only [List.map_toArray, List.map_cons, List.map_nil]); first | done | rfl) ?_
  have hc := mix_calls gv cv V 0 5 10 15 x y ((wd.drewN n0).drewN n1) ((HVd.out.drewN n0).drewN n1) HL.out (by decide) (by decide) (by decide) (by decide) (by decide) (by decide) (by decide) (by decide) (by decide) (by decide)
  refine Calls.mono (show Calls _ _ _ _ _ from hc) ?_
  rintro e w5 ⟨rfl, hv, hk⟩
  refine ⟨_, rfl, ?_⟩
  have hs0 := Bk.keep_cell hk hHeld.1 HNE.out
  have hs1 := Bk.keep_cell hk hHeld.2 HNE.out
  have HV5 := Aside0.mk hv
  have HK5 := Aside0.mk hk
  clear hv hk hc
  refine hK.out _ _ ⟨hs0, hs1⟩ (fun hHeld => ?_)
  clear hK K
  refine norm_ (a' := ?_) ?_ ?_
  rotate_left
  · show Act.put _ (some 233) _ = _
    simp only [Act.put, List.setIfInBounds_toArray, List.set_cons_zero, List.set_cons_succ, i64_w, i32_w]
    rfl
  refine done_ (done_of HT_.out (by kernel_rfl)) ?_
  go_wp2_with fail
  refine HK.out _ _ _ _ _ _ _ _ _ _ _ _ _ _ _ ?_ ?_
  · rw [← HX.out.1, ← HX.out.2]
    exact HV5.out
  · have hk := HK5.out
    rw [HWD.out] at hk
    exact ⟨hk.size, hk.block, hk.os, hk.tape, hk.output⟩
set_option maxHeartbeats 8000000 in
set_option maxRecDepth 1000000 in
theorem m_mix5 {u0 u1 u2 u3 u4 u5 u6 u7 u8 u9 u10 u11 u12 u14 u16 u17 u19 u20 u21 u22 u23 u24 u25 u26 u27 u28 u29 u30 u31 u32 u33 u34 u35 u36 u37 u38 u39 u40 u41 u42 u43 u44 u45 u46 u47 u48 u49 u50 u51 u52 u53 u54 u55 u56 u57 u58 u59 u60 u61 u62 u63 u64 u65 u66 u67 u68 u69 u70 u71 u72 u73 u74 u75 u76 u77 u78 u79 u80 u81 u82 u83 u84 u85 u86 u87 u88 u89 u90 u91 u92 u93 u94 u95 u96 u97 u98 u99 u100 u101 u102 u103 u104 u105 u106 u107 u108 u109 u110 u111 u112 u113 u114 u115 u116 u117 u118 u119 u120 u121 u122 u123 u124 u125 u126 u127 u128 u129 u130 u131 u132 u133 u134 u135 u136 u137 u138 u139 u140 u141 u142 u143 u144 u145 u146 u147 u148 u149 u150 u151 u152 u153 u154 u155 u156 u157 u158 u159 u160 u161 u162 u163 u164 u165 u166 u167 u168 u169 u170 u171 u172 u173 u174 u175 u176 u177 u178 u179 u180 u181 u182 u183 u184 u185 u186 u187 u188 u189 u190 u191 u192 u193 u194 u195 u196 u197 u198 u199 u200 u201 u202 u203 u204 u205 u206 u207 u208 u209 u210 u211 u212 u213 u214 u215 u216 u217 u218 u219 u220 u221 u222 u223 u224 u225 u226 u227 u228 u229 u230 u231 u232 u233 u234 u235 u236 u237 u238 u239 u240 u241 u242 u243 u244 u245 u246 u247 u248 u249 u250 u251 u252 u253 u254 u255 u256 u257 u258 u259 u260 u261 u262 u263 u264 u265 u266 u267 u268 u269 u270 u271 u272 u273 u274 u275 u276 u277 u278 u279 u280 u281 u282 u283 u284 u285 u286 u287 u288 u289 u290 u291 u292 u293 u294 u295 u296 u297 u298 u299 u300 u301 u302 u303 u304 u305 u306 u307 u308 u309 u310 u311 u312 u313 u314 u315 u316 u317 u318 u319 u320 u321 u322 u323 u324 u325 u326 u327 u328 u329 u330 u331 u332 : Value} (gv cv gm cm : Nat) (P : ByteArray) (V Ms : List Int) (t0 t1 : Int) (W : World) (hP : P.size = 16) (ht0 : hamperref05_place.f (bt P 10) = some t0) (ht1 : hamperref05_place.f (bt P 11) = some t1) (h00 : 0 ≤ t0) (h01 : t0 < 16) (h10 : 0 ≤ t1) (h11 : t1 < 16)
    (hm : ∀ j, j < 16 → W.cell? ⟨gm, j, none⟩ = some (.int .u32 (Ms.getD j 0))) (hne : gm ≠ gv) (hl : V.length = 16) (hV : VAt W gv V) {K : Act → World → Prop} {Q : Exit → Act → World → Prop} (hQ : ∀ c a a' w, Q (Exit.panic c) a w → a.defers = a'.defers → Q (Exit.panic c) a' w)
    (hK : ∀ (x234 x235 x236 x237 x238 x239 x240 x241 x242 x243 x244 x245 x246 x247 : Value) (w' : World), VAt w' gv (mixL V 1 6 11 12 (Ms.getD t0.toNat 0) (Ms.getD t1.toNat 0)) → Bk.KeepBut W w' gv none → K ⟨#[u0, u1, u2, u3, u4, u5, u6, u7, u8, u9, u10, u11, u12, .slice (some ⟨gm, 0, none⟩) 16 cm, u14, .slice (some ⟨gv, 0, none⟩) 16 cv, u16, u17, .string P, u19, u20, u21, u22, u23, u24, u25, u26, u27, u28, u29, u30, u31, u32, u33, u34, u35, u36, u37, u38, u39, u40, u41, u42, u43, u44, u45, u46, u47, u48, u49, u50, u51, u52, u53, u54, u55, u56, u57, u58, u59, u60, u61, u62, u63, u64, u65, u66, u67, u68, u69, u70, u71, u72, u73, u74, u75, u76, u77, u78, u79, u80, u81, u82, u83, u84, u85, u86, u87, u88, u89, u90, u91, u92, u93, u94, u95, u96, u97, u98, u99, u100, u101, u102, u103, u104, u105, u106, u107, u108, u109, u110, u111, u112, u113, u114, u115, u116, u117, u118, u119, u120, u121, u122, u123, u124, u125, u126, u127, u128, u129, u130, u131, u132, u133, u134, u135, u136, u137, u138, u139, u140, u141, u142, u143, u144, u145, u146, u147, u148, u149, u150, u151, u152, u153, u154, u155, u156, u157, u158, u159, u160, u161, u162, u163, u164, u165, u166, u167, u168, u169, u170, u171, u172, u173, u174, u175, u176, u177, u178, u179, u180, u181, u182, u183, u184, u185, u186, u187, u188, u189, u190, u191, u192, u193, u194, u195, u196, u197, u198, u199, u200, u201, u202, u203, u204, u205, u206, u207, u208, u209, u210, u211, u212, u213, u214, u215, u216, u217, u218, u219, u220, u221, u222, u223, u224, u225, u226, u227, u228, u229, u230, u231, u232, u233, x234, x235, x236, x237, x238, x239, x240, x241, x242, x243, x244, x245, x246, x247, u248, u249, u250, u251, u252, u253, u254, u255, u256, u257, u258, u259, u260, u261, u262, u263, u264, u265, u266, u267, u268, u269, u270, u271, u272, u273, u274, u275, u276, u277, u278, u279, u280, u281, u282, u283, u284, u285, u286, u287, u288, u289, u290, u291, u292, u293, u294, u295, u296, u297, u298, u299, u300, u301, u302, u303, u304, u305, u306, u307, u308, u309, u310, u311, u312, u313, u314, u315, u316, u317, u318, u319, u320, u321, u322, u323, u324, u325, u326, u327, u328, u329, u330, u331, u332], []⟩ w') :
    Code.wp Tryd.prog (kReg 38) (Exit.then K Q) ⟨#[u0, u1, u2, u3, u4, u5, u6, u7, u8, u9, u10, u11, u12, .slice (some ⟨gm, 0, none⟩) 16 cm, u14, .slice (some ⟨gv, 0, none⟩) 16 cv, u16, u17, .string P, u19, u20, u21, u22, u23, u24, u25, u26, u27, u28, u29, u30, u31, u32, u33, u34, u35, u36, u37, u38, u39, u40, u41, u42, u43, u44, u45, u46, u47, u48, u49, u50, u51, u52, u53, u54, u55, u56, u57, u58, u59, u60, u61, u62, u63, u64, u65, u66, u67, u68, u69, u70, u71, u72, u73, u74, u75, u76, u77, u78, u79, u80, u81, u82, u83, u84, u85, u86, u87, u88, u89, u90, u91, u92, u93, u94, u95, u96, u97, u98, u99, u100, u101, u102, u103, u104, u105, u106, u107, u108, u109, u110, u111, u112, u113, u114, u115, u116, u117, u118, u119, u120, u121, u122, u123, u124, u125, u126, u127, u128, u129, u130, u131, u132, u133, u134, u135, u136, u137, u138, u139, u140, u141, u142, u143, u144, u145, u146, u147, u148, u149, u150, u151, u152, u153, u154, u155, u156, u157, u158, u159, u160, u161, u162, u163, u164, u165, u166, u167, u168, u169, u170, u171, u172, u173, u174, u175, u176, u177, u178, u179, u180, u181, u182, u183, u184, u185, u186, u187, u188, u189, u190, u191, u192, u193, u194, u195, u196, u197, u198, u199, u200, u201, u202, u203, u204, u205, u206, u207, u208, u209, u210, u211, u212, u213, u214, u215, u216, u217, u218, u219, u220, u221, u222, u223, u224, u225, u226, u227, u228, u229, u230, u231, u232, u233, u234, u235, u236, u237, u238, u239, u240, u241, u242, u243, u244, u245, u246, u247, u248, u249, u250, u251, u252, u253, u254, u255, u256, u257, u258, u259, u260, u261, u262, u263, u264, u265, u266, u267, u268, u269, u270, u271, u272, u273, u274, u275, u276, u277, u278, u279, u280, u281, u282, u283, u284, u285, u286, u287, u288, u289, u290, u291, u292, u293, u294, u295, u296, u297, u298, u299, u300, u301, u302, u303, u304, u305, u306, u307, u308, u309, u310, u311, u312, u313, u314, u315, u316, u317, u318, u319, u320, u321, u322, u323, u324, u325, u326, u327, u328, u329, u330, u331, u332], []⟩ W := by
  have HK := Aside0.mk hK
  have HQ := Aside0.mk hQ
  have HV := Aside0.mk hV
  have HL := Aside0.mk hl
  have HNE := Aside0.mk hne
  have Ht0 := Aside0.mk ht0
  have Ht1 := Aside0.mk ht1
  obtain ⟨x, hx⟩ : ∃ x, x = Ms.getD t0.toNat 0 := ⟨_, rfl⟩
  obtain ⟨y, hy⟩ : ∃ y, y = Ms.getD t1.toNat 0 := ⟨_, rfl⟩
  have hx0 : W.cell? ⟨gm, (t0).toNat, none⟩ = some (.int .u32 x) := by rw [hx]; exact hm _ (by omega)
  have hx1 : W.cell? ⟨gm, (t1).toNat, none⟩ = some (.int .u32 y) := by rw [hy]; exact hm _ (by omega)
  have HX := Aside0.mk (And.intro hx hy)
  have p0 := eq_true h00
  have q0 := eq_true h01
  have p1 := eq_true h10
  have q1 := eq_true h11
  have pa := eq_true (show 10 < P.size by omega)
  have qa := eq_true (show ((10 : Int) < (P.size : Int)) by omega)
  have pb := eq_true (show 11 < P.size by omega)
  have qb := eq_true (show ((11 : Int) < (P.size : Int)) by omega)
  have ra : ∀ h : 10 < P.size, (((P[10]'h).toNat : Nat) : Int) = bt P 10 := bt_at P 10
  have rb : ∀ h : 11 < P.size, (((P[11]'h).toNat : Nat) : Int) = bt P 11 := bt_at P 11
  clear hP hm hK hQ hV hl hne ht0 ht1 hx hy h00 h01 h10 h11
  conv => arg 2; whnf
  refine start_ (n := 14) (S := fun w' => w'.cell? ⟨gm, (t0).toNat, none⟩ = some (.int .u32 x) ∧ w'.cell? ⟨gm, (t1).toNat, none⟩ = some (.int .u32 y)) (ds := []) #[false, false, false, false, false, false, false, false, false, false, false, false, false, false] (by kernel_rfl) rfl rfl ⟨hx0, hx1⟩ (fun hHeld => ?_); refine with_tabW kt38 kb38 (fun HT_ HW_ => ?_)
  have HVd := Aside0.mk HV.out.drew
  clear hx0 hx1
  obtain ⟨wd, hwd⟩ : ∃ W', W' = W.drew := ⟨_, rfl⟩
  rw [← hwd] at HVd hHeld ⊢
  have HWD := Aside0.mk hwd
  clear hwd
  refine pure_ (i := 0) (N := some 234) (v := ?_) (a' := ?_) #[true, false, false, false, false, false, false, false, false, false, false, false, false, false] rfl rfl (any_of HT_.out (by kernel_rfl)) (fun _ _ _ h => HQ.out _ _ _ _ h rfl) (Or.inl ⟨by rfl, ?_⟩) ?_ ?_
  rotate_left
  · intro w'
    go_simp
    with_reducible rfl
  rotate_left
  · simp only [Act.put, List.setIfInBounds_toArray, List.set_cons_zero, List.set_cons_succ, i64_w, i32_w]
    rfl
  refine pure_ (i := 1) (N := some 235) (v := ?_) (a' := ?_) #[true, true, false, false, false, false, false, false, false, false, false, false, false, false] rfl rfl (any_of HT_.out (by kernel_rfl)) (fun _ _ _ h => HQ.out _ _ _ _ h rfl) (Or.inl ⟨by rfl, ?_⟩) ?_ ?_
  rotate_left
  · intro w'
    go_simp
    with_reducible rfl
  rotate_left
  · simp only [Act.put, List.setIfInBounds_toArray, List.set_cons_zero, List.set_cons_succ, i64_w, i32_w]
    rfl
  refine pure_ (i := 2) (N := some 236) (v := ?_) (a' := ?_) #[true, true, true, false, false, false, false, false, false, false, false, false, false, false] rfl rfl (any_of HT_.out (by kernel_rfl)) (fun _ _ _ h => HQ.out _ _ _ _ h rfl) (Or.inl ⟨by rfl, ?_⟩) ?_ ?_
  rotate_left
  · intro w'
    go_simp
    with_reducible rfl
  rotate_left
  · simp only [Act.put, List.setIfInBounds_toArray, List.set_cons_zero, List.set_cons_succ, i64_w, i32_w]
    rfl
  refine pure_ (i := 7) (N := some 241) (v := ?_) (a' := ?_) #[true, true, true, false, false, false, false, true, false, false, false, false, false, false] rfl rfl (any_of HT_.out (by kernel_rfl)) (fun _ _ _ h => HQ.out _ _ _ _ h rfl) (Or.inl ⟨by rfl, ?_⟩) ?_ ?_
  rotate_left
  · intro w'
    go_simp
    with_reducible rfl
  rotate_left
  · simp only [Act.put, List.setIfInBounds_toArray, List.set_cons_zero, List.set_cons_succ, i64_w, i32_w]
    rfl
  refine pure_ (i := 8) (N := some 242) (v := ?_) (a' := ?_) #[true, true, true, false, false, false, false, true, true, false, false, false, false, false] rfl rfl (any_of HT_.out (by kernel_rfl)) (fun _ _ _ h => HQ.out _ _ _ _ h rfl) (Or.inl ⟨by rfl, ?_⟩) ?_ ?_
  rotate_left
  · intro w'
    go_simp
    with_reducible rfl
  rotate_left
  · simp only [Act.put, List.setIfInBounds_toArray, List.set_cons_zero, List.set_cons_succ, i64_w, i32_w]
    rfl
  refine take_ (i := 3) (N := some 237) (v := ?_) (a' := ?_) #[true, true, true, true, false, false, false, true, true, false, false, false, false, false] rfl rfl (take_ofW HT_.out HW_.out (by kernel_rfl)) (fun _ _ _ h => HQ.out _ _ _ _ h rfl) (Or.inl ⟨by rfl, ?_⟩) hHeld ?_ ?_
  rotate_left
  · rintro w' ⟨s0, s1⟩
    go_simp
    with_reducible rfl
  rotate_left
  · simp only [Act.put, List.setIfInBounds_toArray, List.set_cons_zero, List.set_cons_succ, i64_w, i32_w]
    rfl
  refine take_ (i := 9) (N := some 243) (v := ?_) (a' := ?_) #[true, true, true, true, false, false, false, true, true, true, false, false, false, false] rfl rfl (take_ofW HT_.out HW_.out (by kernel_rfl)) (fun _ _ _ h => HQ.out _ _ _ _ h rfl) (Or.inl ⟨by rfl, ?_⟩) hHeld ?_ ?_
  rotate_left
  · rintro w' ⟨s0, s1⟩
    go_simp
    with_reducible rfl
  rotate_left
  · simp only [Act.put, List.setIfInBounds_toArray, List.set_cons_zero, List.set_cons_succ, i64_w, i32_w]
    rfl
  refine one_ (i := 4) (N := some 238) #[true, true, true, true, true, false, false, true, true, true, false, false, false, false] rfl rfl (one_of HT_.out (by kernel_rfl)) (by decide) (fun K hK => ?_)
  refine goes_ Tryd.func50 (by kernel_rfl) rfl #[.int .u8 (bt P 10)] (by rfl) rfl rfl (by (try simp only [List.map_toArray, List.map_cons, List.map_nil]); first | done | rfl) ?_
  with_reducible refine (hamperref05_place.calls (bt P 10) t0 _ Ht0.out).mono ?_
  rintro e w' ⟨rfl, ⟨n0, rfl⟩⟩
  refine ⟨_, rfl, ?_⟩
  refine hK.out _ _ ⟨hHeld.1, hHeld.2⟩ (fun hHeld => ?_)
  clear hK K
  refine norm_ (a' := ?_) ?_ ?_
  rotate_left
  · show Act.put _ (some 238) _ = _
    simp only [Act.put, List.setIfInBounds_toArray, List.set_cons_zero, List.set_cons_succ, i64_w, i32_w]
    rfl
  refine pure_ (i := 5) (N := some 239) (v := ?_) (a' := ?_) #[true, true, true, true, true, true, false, true, true, true, false, false, false, false] rfl rfl (any_of HT_.out (by kernel_rfl)) (fun _ _ _ h => HQ.out _ _ _ _ h rfl) (Or.inl ⟨by rfl, ?_⟩) ?_ ?_
  rotate_left
  · intro w'
    go_simp
    with_reducible rfl
  rotate_left
  · simp only [Act.put, List.setIfInBounds_toArray, List.set_cons_zero, List.set_cons_succ, i64_w, i32_w]
    rfl
  refine take_ (i := 6) (N := some 240) (v := ?_) (a' := ?_) #[true, true, true, true, true, true, true, true, true, true, false, false, false, false] rfl rfl (take_ofW HT_.out HW_.out (by kernel_rfl)) (fun _ _ _ h => HQ.out _ _ _ _ h rfl) (Or.inl ⟨by rfl, ?_⟩) hHeld ?_ ?_
  rotate_left
  · rintro w' ⟨s0, s1⟩
    go_simp
    with_reducible rfl
  rotate_left
  · simp only [Act.put, List.setIfInBounds_toArray, List.set_cons_zero, List.set_cons_succ, i64_w, i32_w]
    rfl
  refine one_ (i := 10) (N := some 244) #[true, true, true, true, true, true, true, true, true, true, true, false, false, false] rfl rfl (one_of HT_.out (by kernel_rfl)) (by decide) (fun K hK => ?_)
  refine goes_ Tryd.func50 (by kernel_rfl) rfl #[.int .u8 (bt P 11)] (by rfl) rfl rfl (by (try simp only [List.map_toArray, List.map_cons, List.map_nil]); first | done | rfl) ?_
  with_reducible refine (hamperref05_place.calls (bt P 11) t1 _ Ht1.out).mono ?_
  rintro e w' ⟨rfl, ⟨n1, rfl⟩⟩
  refine ⟨_, rfl, ?_⟩
  refine hK.out _ _ ⟨hHeld.1, hHeld.2⟩ (fun hHeld => ?_)
  clear hK K
  refine norm_ (a' := ?_) ?_ ?_
  rotate_left
  · show Act.put _ (some 244) _ = _
    simp only [Act.put, List.setIfInBounds_toArray, List.set_cons_zero, List.set_cons_succ, i64_w, i32_w]
    rfl
  refine pure_ (i := 11) (N := some 245) (v := ?_) (a' := ?_) #[true, true, true, true, true, true, true, true, true, true, true, true, false, false] rfl rfl (any_of HT_.out (by kernel_rfl)) (fun _ _ _ h => HQ.out _ _ _ _ h rfl) (Or.inl ⟨by rfl, ?_⟩) ?_ ?_
  rotate_left
  · intro w'
    go_simp
    with_reducible rfl
  rotate_left
  · simp only [Act.put, List.setIfInBounds_toArray, List.set_cons_zero, List.set_cons_succ, i64_w, i32_w]
    rfl
  refine take_ (i := 12) (N := some 246) (v := ?_) (a' := ?_) #[true, true, true, true, true, true, true, true, true, true, true, true, true, false] rfl rfl (take_ofW HT_.out HW_.out (by kernel_rfl)) (fun _ _ _ h => HQ.out _ _ _ _ h rfl) (Or.inl ⟨by rfl, ?_⟩) hHeld ?_ ?_
  rotate_left
  · rintro w' ⟨s0, s1⟩
    go_simp
    with_reducible rfl
  rotate_left
  · simp only [Act.put, List.setIfInBounds_toArray, List.set_cons_zero, List.set_cons_succ, i64_w, i32_w]
    rfl
  refine one_ (i := 13) (N := some 247) #[true, true, true, true, true, true, true, true, true, true, true, true, true, true] rfl rfl (one_of HT_.out (by kernel_rfl)) (by decide) (fun K hK => ?_)
  refine goes_ Tryd.func49 (by kernel_rfl) rfl #[.slice (some ⟨gv, 0, none⟩) 16 cv, .int .i64 1, .int .i64 6, .int .i64 11, .int .i64 12, .int .u32 x, .int .u32 y] (by rfl) rfl rfl (by (try simp only [List.map_toArray, List.map_cons, List.map_nil]); first | done | rfl) ?_
  have hc := mix_calls gv cv V 1 6 11 12 x y ((wd.drewN n0).drewN n1) ((HVd.out.drewN n0).drewN n1) HL.out (by decide) (by decide) (by decide) (by decide) (by decide) (by decide) (by decide) (by decide) (by decide) (by decide)
  refine Calls.mono (show Calls _ _ _ _ _ from hc) ?_
  rintro e w5 ⟨rfl, hv, hk⟩
  refine ⟨_, rfl, ?_⟩
  have hs0 := Bk.keep_cell hk hHeld.1 HNE.out
  have hs1 := Bk.keep_cell hk hHeld.2 HNE.out
  have HV5 := Aside0.mk hv
  have HK5 := Aside0.mk hk
  clear hv hk hc
  refine hK.out _ _ ⟨hs0, hs1⟩ (fun hHeld => ?_)
  clear hK K
  refine norm_ (a' := ?_) ?_ ?_
  rotate_left
  · show Act.put _ (some 247) _ = _
    simp only [Act.put, List.setIfInBounds_toArray, List.set_cons_zero, List.set_cons_succ, i64_w, i32_w]
    rfl
  refine done_ (done_of HT_.out (by kernel_rfl)) ?_
  go_wp2_with fail
  refine HK.out _ _ _ _ _ _ _ _ _ _ _ _ _ _ _ ?_ ?_
  · rw [← HX.out.1, ← HX.out.2]
    exact HV5.out
  · have hk := HK5.out
    rw [HWD.out] at hk
    exact ⟨hk.size, hk.block, hk.os, hk.tape, hk.output⟩
set_option maxHeartbeats 8000000 in
set_option maxRecDepth 1000000 in
theorem m_mix6 {u0 u1 u2 u3 u4 u5 u6 u7 u8 u9 u10 u11 u12 u14 u16 u17 u19 u20 u21 u22 u23 u24 u25 u26 u27 u28 u29 u30 u31 u32 u33 u34 u35 u36 u37 u38 u39 u40 u41 u42 u43 u44 u45 u46 u47 u48 u49 u50 u51 u52 u53 u54 u55 u56 u57 u58 u59 u60 u61 u62 u63 u64 u65 u66 u67 u68 u69 u70 u71 u72 u73 u74 u75 u76 u77 u78 u79 u80 u81 u82 u83 u84 u85 u86 u87 u88 u89 u90 u91 u92 u93 u94 u95 u96 u97 u98 u99 u100 u101 u102 u103 u104 u105 u106 u107 u108 u109 u110 u111 u112 u113 u114 u115 u116 u117 u118 u119 u120 u121 u122 u123 u124 u125 u126 u127 u128 u129 u130 u131 u132 u133 u134 u135 u136 u137 u138 u139 u140 u141 u142 u143 u144 u145 u146 u147 u148 u149 u150 u151 u152 u153 u154 u155 u156 u157 u158 u159 u160 u161 u162 u163 u164 u165 u166 u167 u168 u169 u170 u171 u172 u173 u174 u175 u176 u177 u178 u179 u180 u181 u182 u183 u184 u185 u186 u187 u188 u189 u190 u191 u192 u193 u194 u195 u196 u197 u198 u199 u200 u201 u202 u203 u204 u205 u206 u207 u208 u209 u210 u211 u212 u213 u214 u215 u216 u217 u218 u219 u220 u221 u222 u223 u224 u225 u226 u227 u228 u229 u230 u231 u232 u233 u234 u235 u236 u237 u238 u239 u240 u241 u242 u243 u244 u245 u246 u247 u248 u249 u250 u251 u252 u253 u254 u255 u256 u257 u258 u259 u260 u261 u262 u263 u264 u265 u266 u267 u268 u269 u270 u271 u272 u273 u274 u275 u276 u277 u278 u279 u280 u281 u282 u283 u284 u285 u286 u287 u288 u289 u290 u291 u292 u293 u294 u295 u296 u297 u298 u299 u300 u301 u302 u303 u304 u305 u306 u307 u308 u309 u310 u311 u312 u313 u314 u315 u316 u317 u318 u319 u320 u321 u322 u323 u324 u325 u326 u327 u328 u329 u330 u331 u332 : Value} (gv cv gm cm : Nat) (P : ByteArray) (V Ms : List Int) (t0 t1 : Int) (W : World) (hP : P.size = 16) (ht0 : hamperref05_place.f (bt P 12) = some t0) (ht1 : hamperref05_place.f (bt P 13) = some t1) (h00 : 0 ≤ t0) (h01 : t0 < 16) (h10 : 0 ≤ t1) (h11 : t1 < 16)
    (hm : ∀ j, j < 16 → W.cell? ⟨gm, j, none⟩ = some (.int .u32 (Ms.getD j 0))) (hne : gm ≠ gv) (hl : V.length = 16) (hV : VAt W gv V) {K : Act → World → Prop} {Q : Exit → Act → World → Prop} (hQ : ∀ c a a' w, Q (Exit.panic c) a w → a.defers = a'.defers → Q (Exit.panic c) a' w)
    (hK : ∀ (x248 x249 x250 x251 x252 x253 x254 x255 x256 x257 x258 x259 x260 x261 : Value) (w' : World), VAt w' gv (mixL V 2 7 8 13 (Ms.getD t0.toNat 0) (Ms.getD t1.toNat 0)) → Bk.KeepBut W w' gv none → K ⟨#[u0, u1, u2, u3, u4, u5, u6, u7, u8, u9, u10, u11, u12, .slice (some ⟨gm, 0, none⟩) 16 cm, u14, .slice (some ⟨gv, 0, none⟩) 16 cv, u16, u17, .string P, u19, u20, u21, u22, u23, u24, u25, u26, u27, u28, u29, u30, u31, u32, u33, u34, u35, u36, u37, u38, u39, u40, u41, u42, u43, u44, u45, u46, u47, u48, u49, u50, u51, u52, u53, u54, u55, u56, u57, u58, u59, u60, u61, u62, u63, u64, u65, u66, u67, u68, u69, u70, u71, u72, u73, u74, u75, u76, u77, u78, u79, u80, u81, u82, u83, u84, u85, u86, u87, u88, u89, u90, u91, u92, u93, u94, u95, u96, u97, u98, u99, u100, u101, u102, u103, u104, u105, u106, u107, u108, u109, u110, u111, u112, u113, u114, u115, u116, u117, u118, u119, u120, u121, u122, u123, u124, u125, u126, u127, u128, u129, u130, u131, u132, u133, u134, u135, u136, u137, u138, u139, u140, u141, u142, u143, u144, u145, u146, u147, u148, u149, u150, u151, u152, u153, u154, u155, u156, u157, u158, u159, u160, u161, u162, u163, u164, u165, u166, u167, u168, u169, u170, u171, u172, u173, u174, u175, u176, u177, u178, u179, u180, u181, u182, u183, u184, u185, u186, u187, u188, u189, u190, u191, u192, u193, u194, u195, u196, u197, u198, u199, u200, u201, u202, u203, u204, u205, u206, u207, u208, u209, u210, u211, u212, u213, u214, u215, u216, u217, u218, u219, u220, u221, u222, u223, u224, u225, u226, u227, u228, u229, u230, u231, u232, u233, u234, u235, u236, u237, u238, u239, u240, u241, u242, u243, u244, u245, u246, u247, x248, x249, x250, x251, x252, x253, x254, x255, x256, x257, x258, x259, x260, x261, u262, u263, u264, u265, u266, u267, u268, u269, u270, u271, u272, u273, u274, u275, u276, u277, u278, u279, u280, u281, u282, u283, u284, u285, u286, u287, u288, u289, u290, u291, u292, u293, u294, u295, u296, u297, u298, u299, u300, u301, u302, u303, u304, u305, u306, u307, u308, u309, u310, u311, u312, u313, u314, u315, u316, u317, u318, u319, u320, u321, u322, u323, u324, u325, u326, u327, u328, u329, u330, u331, u332], []⟩ w') :
    Code.wp Tryd.prog (kReg 39) (Exit.then K Q) ⟨#[u0, u1, u2, u3, u4, u5, u6, u7, u8, u9, u10, u11, u12, .slice (some ⟨gm, 0, none⟩) 16 cm, u14, .slice (some ⟨gv, 0, none⟩) 16 cv, u16, u17, .string P, u19, u20, u21, u22, u23, u24, u25, u26, u27, u28, u29, u30, u31, u32, u33, u34, u35, u36, u37, u38, u39, u40, u41, u42, u43, u44, u45, u46, u47, u48, u49, u50, u51, u52, u53, u54, u55, u56, u57, u58, u59, u60, u61, u62, u63, u64, u65, u66, u67, u68, u69, u70, u71, u72, u73, u74, u75, u76, u77, u78, u79, u80, u81, u82, u83, u84, u85, u86, u87, u88, u89, u90, u91, u92, u93, u94, u95, u96, u97, u98, u99, u100, u101, u102, u103, u104, u105, u106, u107, u108, u109, u110, u111, u112, u113, u114, u115, u116, u117, u118, u119, u120, u121, u122, u123, u124, u125, u126, u127, u128, u129, u130, u131, u132, u133, u134, u135, u136, u137, u138, u139, u140, u141, u142, u143, u144, u145, u146, u147, u148, u149, u150, u151, u152, u153, u154, u155, u156, u157, u158, u159, u160, u161, u162, u163, u164, u165, u166, u167, u168, u169, u170, u171, u172, u173, u174, u175, u176, u177, u178, u179, u180, u181, u182, u183, u184, u185, u186, u187, u188, u189, u190, u191, u192, u193, u194, u195, u196, u197, u198, u199, u200, u201, u202, u203, u204, u205, u206, u207, u208, u209, u210, u211, u212, u213, u214, u215, u216, u217, u218, u219, u220, u221, u222, u223, u224, u225, u226, u227, u228, u229, u230, u231, u232, u233, u234, u235, u236, u237, u238, u239, u240, u241, u242, u243, u244, u245, u246, u247, u248, u249, u250, u251, u252, u253, u254, u255, u256, u257, u258, u259, u260, u261, u262, u263, u264, u265, u266, u267, u268, u269, u270, u271, u272, u273, u274, u275, u276, u277, u278, u279, u280, u281, u282, u283, u284, u285, u286, u287, u288, u289, u290, u291, u292, u293, u294, u295, u296, u297, u298, u299, u300, u301, u302, u303, u304, u305, u306, u307, u308, u309, u310, u311, u312, u313, u314, u315, u316, u317, u318, u319, u320, u321, u322, u323, u324, u325, u326, u327, u328, u329, u330, u331, u332], []⟩ W := by
  have HK := Aside0.mk hK
  have HQ := Aside0.mk hQ
  have HV := Aside0.mk hV
  have HL := Aside0.mk hl
  have HNE := Aside0.mk hne
  have Ht0 := Aside0.mk ht0
  have Ht1 := Aside0.mk ht1
  obtain ⟨x, hx⟩ : ∃ x, x = Ms.getD t0.toNat 0 := ⟨_, rfl⟩
  obtain ⟨y, hy⟩ : ∃ y, y = Ms.getD t1.toNat 0 := ⟨_, rfl⟩
  have hx0 : W.cell? ⟨gm, (t0).toNat, none⟩ = some (.int .u32 x) := by rw [hx]; exact hm _ (by omega)
  have hx1 : W.cell? ⟨gm, (t1).toNat, none⟩ = some (.int .u32 y) := by rw [hy]; exact hm _ (by omega)
  have HX := Aside0.mk (And.intro hx hy)
  have p0 := eq_true h00
  have q0 := eq_true h01
  have p1 := eq_true h10
  have q1 := eq_true h11
  have pa := eq_true (show 12 < P.size by omega)
  have qa := eq_true (show ((12 : Int) < (P.size : Int)) by omega)
  have pb := eq_true (show 13 < P.size by omega)
  have qb := eq_true (show ((13 : Int) < (P.size : Int)) by omega)
  have ra : ∀ h : 12 < P.size, (((P[12]'h).toNat : Nat) : Int) = bt P 12 := bt_at P 12
  have rb : ∀ h : 13 < P.size, (((P[13]'h).toNat : Nat) : Int) = bt P 13 := bt_at P 13
  clear hP hm hK hQ hV hl hne ht0 ht1 hx hy h00 h01 h10 h11
  conv => arg 2; whnf
  refine start_ (n := 14) (S := fun w' => w'.cell? ⟨gm, (t0).toNat, none⟩ = some (.int .u32 x) ∧ w'.cell? ⟨gm, (t1).toNat, none⟩ = some (.int .u32 y)) (ds := []) #[false, false, false, false, false, false, false, false, false, false, false, false, false, false] (by kernel_rfl) rfl rfl ⟨hx0, hx1⟩ (fun hHeld => ?_); refine with_tabW kt39 kb39 (fun HT_ HW_ => ?_)
  have HVd := Aside0.mk HV.out.drew
  clear hx0 hx1
  obtain ⟨wd, hwd⟩ : ∃ W', W' = W.drew := ⟨_, rfl⟩
  rw [← hwd] at HVd hHeld ⊢
  have HWD := Aside0.mk hwd
  clear hwd
  refine pure_ (i := 0) (N := some 248) (v := ?_) (a' := ?_) #[true, false, false, false, false, false, false, false, false, false, false, false, false, false] rfl rfl (any_of HT_.out (by kernel_rfl)) (fun _ _ _ h => HQ.out _ _ _ _ h rfl) (Or.inl ⟨by rfl, ?_⟩) ?_ ?_
  rotate_left
  · intro w'
    go_simp
    with_reducible rfl
  rotate_left
  · simp only [Act.put, List.setIfInBounds_toArray, List.set_cons_zero, List.set_cons_succ, i64_w, i32_w]
    rfl
  refine pure_ (i := 1) (N := some 249) (v := ?_) (a' := ?_) #[true, true, false, false, false, false, false, false, false, false, false, false, false, false] rfl rfl (any_of HT_.out (by kernel_rfl)) (fun _ _ _ h => HQ.out _ _ _ _ h rfl) (Or.inl ⟨by rfl, ?_⟩) ?_ ?_
  rotate_left
  · intro w'
    go_simp
    with_reducible rfl
  rotate_left
  · simp only [Act.put, List.setIfInBounds_toArray, List.set_cons_zero, List.set_cons_succ, i64_w, i32_w]
    rfl
  refine pure_ (i := 2) (N := some 250) (v := ?_) (a' := ?_) #[true, true, true, false, false, false, false, false, false, false, false, false, false, false] rfl rfl (any_of HT_.out (by kernel_rfl)) (fun _ _ _ h => HQ.out _ _ _ _ h rfl) (Or.inl ⟨by rfl, ?_⟩) ?_ ?_
  rotate_left
  · intro w'
    go_simp
    with_reducible rfl
  rotate_left
  · simp only [Act.put, List.setIfInBounds_toArray, List.set_cons_zero, List.set_cons_succ, i64_w, i32_w]
    rfl
  refine pure_ (i := 7) (N := some 255) (v := ?_) (a' := ?_) #[true, true, true, false, false, false, false, true, false, false, false, false, false, false] rfl rfl (any_of HT_.out (by kernel_rfl)) (fun _ _ _ h => HQ.out _ _ _ _ h rfl) (Or.inl ⟨by rfl, ?_⟩) ?_ ?_
  rotate_left
  · intro w'
    go_simp
    with_reducible rfl
  rotate_left
  · simp only [Act.put, List.setIfInBounds_toArray, List.set_cons_zero, List.set_cons_succ, i64_w, i32_w]
    rfl
  refine pure_ (i := 8) (N := some 256) (v := ?_) (a' := ?_) #[true, true, true, false, false, false, false, true, true, false, false, false, false, false] rfl rfl (any_of HT_.out (by kernel_rfl)) (fun _ _ _ h => HQ.out _ _ _ _ h rfl) (Or.inl ⟨by rfl, ?_⟩) ?_ ?_
  rotate_left
  · intro w'
    go_simp
    with_reducible rfl
  rotate_left
  · simp only [Act.put, List.setIfInBounds_toArray, List.set_cons_zero, List.set_cons_succ, i64_w, i32_w]
    rfl
  refine take_ (i := 3) (N := some 251) (v := ?_) (a' := ?_) #[true, true, true, true, false, false, false, true, true, false, false, false, false, false] rfl rfl (take_ofW HT_.out HW_.out (by kernel_rfl)) (fun _ _ _ h => HQ.out _ _ _ _ h rfl) (Or.inl ⟨by rfl, ?_⟩) hHeld ?_ ?_
  rotate_left
  · rintro w' ⟨s0, s1⟩
    go_simp
    with_reducible rfl
  rotate_left
  · simp only [Act.put, List.setIfInBounds_toArray, List.set_cons_zero, List.set_cons_succ, i64_w, i32_w]
    rfl
  refine take_ (i := 9) (N := some 257) (v := ?_) (a' := ?_) #[true, true, true, true, false, false, false, true, true, true, false, false, false, false] rfl rfl (take_ofW HT_.out HW_.out (by kernel_rfl)) (fun _ _ _ h => HQ.out _ _ _ _ h rfl) (Or.inl ⟨by rfl, ?_⟩) hHeld ?_ ?_
  rotate_left
  · rintro w' ⟨s0, s1⟩
    go_simp
    with_reducible rfl
  rotate_left
  · simp only [Act.put, List.setIfInBounds_toArray, List.set_cons_zero, List.set_cons_succ, i64_w, i32_w]
    rfl
  refine one_ (i := 4) (N := some 252) #[true, true, true, true, true, false, false, true, true, true, false, false, false, false] rfl rfl (one_of HT_.out (by kernel_rfl)) (by decide) (fun K hK => ?_)
  refine goes_ Tryd.func50 (by kernel_rfl) rfl #[.int .u8 (bt P 12)] (by rfl) rfl rfl (by (try simp only [List.map_toArray, List.map_cons, List.map_nil]); first | done | rfl) ?_
  with_reducible refine (hamperref05_place.calls (bt P 12) t0 _ Ht0.out).mono ?_
  rintro e w' ⟨rfl, ⟨n0, rfl⟩⟩
  refine ⟨_, rfl, ?_⟩
  refine hK.out _ _ ⟨hHeld.1, hHeld.2⟩ (fun hHeld => ?_)
  clear hK K
  refine norm_ (a' := ?_) ?_ ?_
  rotate_left
  · show Act.put _ (some 252) _ = _
    simp only [Act.put, List.setIfInBounds_toArray, List.set_cons_zero, List.set_cons_succ, i64_w, i32_w]
    rfl
  refine pure_ (i := 5) (N := some 253) (v := ?_) (a' := ?_) #[true, true, true, true, true, true, false, true, true, true, false, false, false, false] rfl rfl (any_of HT_.out (by kernel_rfl)) (fun _ _ _ h => HQ.out _ _ _ _ h rfl) (Or.inl ⟨by rfl, ?_⟩) ?_ ?_
  rotate_left
  · intro w'
    go_simp
    with_reducible rfl
  rotate_left
  · simp only [Act.put, List.setIfInBounds_toArray, List.set_cons_zero, List.set_cons_succ, i64_w, i32_w]
    rfl
  refine take_ (i := 6) (N := some 254) (v := ?_) (a' := ?_) #[true, true, true, true, true, true, true, true, true, true, false, false, false, false] rfl rfl (take_ofW HT_.out HW_.out (by kernel_rfl)) (fun _ _ _ h => HQ.out _ _ _ _ h rfl) (Or.inl ⟨by rfl, ?_⟩) hHeld ?_ ?_
  rotate_left
  · rintro w' ⟨s0, s1⟩
    go_simp
    with_reducible rfl
  rotate_left
  · simp only [Act.put, List.setIfInBounds_toArray, List.set_cons_zero, List.set_cons_succ, i64_w, i32_w]
    rfl
  refine one_ (i := 10) (N := some 258) #[true, true, true, true, true, true, true, true, true, true, true, false, false, false] rfl rfl (one_of HT_.out (by kernel_rfl)) (by decide) (fun K hK => ?_)
  refine goes_ Tryd.func50 (by kernel_rfl) rfl #[.int .u8 (bt P 13)] (by rfl) rfl rfl (by (try simp only [List.map_toArray, List.map_cons, List.map_nil]); first | done | rfl) ?_
  with_reducible refine (hamperref05_place.calls (bt P 13) t1 _ Ht1.out).mono ?_
  rintro e w' ⟨rfl, ⟨n1, rfl⟩⟩
  refine ⟨_, rfl, ?_⟩
  refine hK.out _ _ ⟨hHeld.1, hHeld.2⟩ (fun hHeld => ?_)
  clear hK K
  refine norm_ (a' := ?_) ?_ ?_
  rotate_left
  · show Act.put _ (some 258) _ = _
    simp only [Act.put, List.setIfInBounds_toArray, List.set_cons_zero, List.set_cons_succ, i64_w, i32_w]
    rfl
  refine pure_ (i := 11) (N := some 259) (v := ?_) (a' := ?_) #[true, true, true, true, true, true, true, true, true, true, true, true, false, false] rfl rfl (any_of HT_.out (by kernel_rfl)) (fun _ _ _ h => HQ.out _ _ _ _ h rfl) (Or.inl ⟨by rfl, ?_⟩) ?_ ?_
  rotate_left
  · intro w'
    go_simp
    with_reducible rfl
  rotate_left
  · simp only [Act.put, List.setIfInBounds_toArray, List.set_cons_zero, List.set_cons_succ, i64_w, i32_w]
    rfl
  refine take_ (i := 12) (N := some 260) (v := ?_) (a' := ?_) #[true, true, true, true, true, true, true, true, true, true, true, true, true, false] rfl rfl (take_ofW HT_.out HW_.out (by kernel_rfl)) (fun _ _ _ h => HQ.out _ _ _ _ h rfl) (Or.inl ⟨by rfl, ?_⟩) hHeld ?_ ?_
  rotate_left
  · rintro w' ⟨s0, s1⟩
    go_simp
    with_reducible rfl
  rotate_left
  · simp only [Act.put, List.setIfInBounds_toArray, List.set_cons_zero, List.set_cons_succ, i64_w, i32_w]
    rfl
  refine one_ (i := 13) (N := some 261) #[true, true, true, true, true, true, true, true, true, true, true, true, true, true] rfl rfl (one_of HT_.out (by kernel_rfl)) (by decide) (fun K hK => ?_)
  refine goes_ Tryd.func49 (by kernel_rfl) rfl #[.slice (some ⟨gv, 0, none⟩) 16 cv, .int .i64 2, .int .i64 7, .int .i64 8, .int .i64 13, .int .u32 x, .int .u32 y] (by rfl) rfl rfl (by (try simp only [List.map_toArray, List.map_cons, List.map_nil]); first | done | rfl) ?_
  have hc := mix_calls gv cv V 2 7 8 13 x y ((wd.drewN n0).drewN n1) ((HVd.out.drewN n0).drewN n1) HL.out (by decide) (by decide) (by decide) (by decide) (by decide) (by decide) (by decide) (by decide) (by decide) (by decide)
  refine Calls.mono (show Calls _ _ _ _ _ from hc) ?_
  rintro e w5 ⟨rfl, hv, hk⟩
  refine ⟨_, rfl, ?_⟩
  have hs0 := Bk.keep_cell hk hHeld.1 HNE.out
  have hs1 := Bk.keep_cell hk hHeld.2 HNE.out
  have HV5 := Aside0.mk hv
  have HK5 := Aside0.mk hk
  clear hv hk hc
  refine hK.out _ _ ⟨hs0, hs1⟩ (fun hHeld => ?_)
  clear hK K
  refine norm_ (a' := ?_) ?_ ?_
  rotate_left
  · show Act.put _ (some 261) _ = _
    simp only [Act.put, List.setIfInBounds_toArray, List.set_cons_zero, List.set_cons_succ, i64_w, i32_w]
    rfl
  refine done_ (done_of HT_.out (by kernel_rfl)) ?_
  go_wp2_with fail
  refine HK.out _ _ _ _ _ _ _ _ _ _ _ _ _ _ _ ?_ ?_
  · rw [← HX.out.1, ← HX.out.2]
    exact HV5.out
  · have hk := HK5.out
    rw [HWD.out] at hk
    exact ⟨hk.size, hk.block, hk.os, hk.tape, hk.output⟩
set_option maxHeartbeats 8000000 in
set_option maxRecDepth 1000000 in
theorem m_mix7 {u0 u1 u2 u3 u4 u5 u6 u7 u8 u9 u10 u11 u12 u14 u16 u17 u19 u20 u21 u22 u23 u24 u25 u26 u27 u28 u29 u30 u31 u32 u33 u34 u35 u36 u37 u38 u39 u40 u41 u42 u43 u44 u45 u46 u47 u48 u49 u50 u51 u52 u53 u54 u55 u56 u57 u58 u59 u60 u61 u62 u63 u64 u65 u66 u67 u68 u69 u70 u71 u72 u73 u74 u75 u76 u77 u78 u79 u80 u81 u82 u83 u84 u85 u86 u87 u88 u89 u90 u91 u92 u93 u94 u95 u96 u97 u98 u99 u100 u101 u102 u103 u104 u105 u106 u107 u108 u109 u110 u111 u112 u113 u114 u115 u116 u117 u118 u119 u120 u121 u122 u123 u124 u125 u126 u127 u128 u129 u130 u131 u132 u133 u134 u135 u136 u137 u138 u139 u140 u141 u142 u143 u144 u145 u146 u147 u148 u149 u150 u151 u152 u153 u154 u155 u156 u157 u158 u159 u160 u161 u162 u163 u164 u165 u166 u167 u168 u169 u170 u171 u172 u173 u174 u175 u176 u177 u178 u179 u180 u181 u182 u183 u184 u185 u186 u187 u188 u189 u190 u191 u192 u193 u194 u195 u196 u197 u198 u199 u200 u201 u202 u203 u204 u205 u206 u207 u208 u209 u210 u211 u212 u213 u214 u215 u216 u217 u218 u219 u220 u221 u222 u223 u224 u225 u226 u227 u228 u229 u230 u231 u232 u233 u234 u235 u236 u237 u238 u239 u240 u241 u242 u243 u244 u245 u246 u247 u248 u249 u250 u251 u252 u253 u254 u255 u256 u257 u258 u259 u260 u261 u262 u263 u264 u265 u266 u267 u268 u269 u270 u271 u272 u273 u274 u275 u276 u277 u278 u279 u280 u281 u282 u283 u284 u285 u286 u287 u288 u289 u290 u291 u292 u293 u294 u295 u296 u297 u298 u299 u300 u301 u302 u303 u304 u305 u306 u307 u308 u309 u310 u311 u312 u313 u314 u315 u316 u317 u318 u319 u320 u321 u322 u323 u324 u325 u326 u327 u328 u329 u330 u331 u332 : Value} (gv cv gm cm : Nat) (P : ByteArray) (V Ms : List Int) (t0 t1 : Int) (W : World) (hP : P.size = 16) (ht0 : hamperref05_place.f (bt P 14) = some t0) (ht1 : hamperref05_place.f (bt P 15) = some t1) (h00 : 0 ≤ t0) (h01 : t0 < 16) (h10 : 0 ≤ t1) (h11 : t1 < 16)
    (hm : ∀ j, j < 16 → W.cell? ⟨gm, j, none⟩ = some (.int .u32 (Ms.getD j 0))) (hne : gm ≠ gv) (hl : V.length = 16) (hV : VAt W gv V) {Q : Exit → Act → World → Prop} (hQ : ∀ c a a' w, Q (Exit.panic c) a w → a.defers = a'.defers → Q (Exit.panic c) a' w)
    (hK : ∀ (x262 x263 x264 x265 x266 x267 x268 x269 x270 x271 x272 x273 x274 x275 : Value) (w' : World), VAt w' gv (mixL V 3 4 9 14 (Ms.getD t0.toNat 0) (Ms.getD t1.toNat 0)) → Bk.KeepBut W w' gv none → Q Exit.normal ⟨#[u0, u1, u2, u3, u4, u5, u6, u7, u8, u9, u10, u11, u12, .slice (some ⟨gm, 0, none⟩) 16 cm, u14, .slice (some ⟨gv, 0, none⟩) 16 cv, u16, u17, .string P, u19, u20, u21, u22, u23, u24, u25, u26, u27, u28, u29, u30, u31, u32, u33, u34, u35, u36, u37, u38, u39, u40, u41, u42, u43, u44, u45, u46, u47, u48, u49, u50, u51, u52, u53, u54, u55, u56, u57, u58, u59, u60, u61, u62, u63, u64, u65, u66, u67, u68, u69, u70, u71, u72, u73, u74, u75, u76, u77, u78, u79, u80, u81, u82, u83, u84, u85, u86, u87, u88, u89, u90, u91, u92, u93, u94, u95, u96, u97, u98, u99, u100, u101, u102, u103, u104, u105, u106, u107, u108, u109, u110, u111, u112, u113, u114, u115, u116, u117, u118, u119, u120, u121, u122, u123, u124, u125, u126, u127, u128, u129, u130, u131, u132, u133, u134, u135, u136, u137, u138, u139, u140, u141, u142, u143, u144, u145, u146, u147, u148, u149, u150, u151, u152, u153, u154, u155, u156, u157, u158, u159, u160, u161, u162, u163, u164, u165, u166, u167, u168, u169, u170, u171, u172, u173, u174, u175, u176, u177, u178, u179, u180, u181, u182, u183, u184, u185, u186, u187, u188, u189, u190, u191, u192, u193, u194, u195, u196, u197, u198, u199, u200, u201, u202, u203, u204, u205, u206, u207, u208, u209, u210, u211, u212, u213, u214, u215, u216, u217, u218, u219, u220, u221, u222, u223, u224, u225, u226, u227, u228, u229, u230, u231, u232, u233, u234, u235, u236, u237, u238, u239, u240, u241, u242, u243, u244, u245, u246, u247, u248, u249, u250, u251, u252, u253, u254, u255, u256, u257, u258, u259, u260, u261, x262, x263, x264, x265, x266, x267, x268, x269, x270, x271, x272, x273, x274, x275, u276, u277, u278, u279, u280, u281, u282, u283, u284, u285, u286, u287, u288, u289, u290, u291, u292, u293, u294, u295, u296, u297, u298, u299, u300, u301, u302, u303, u304, u305, u306, u307, u308, u309, u310, u311, u312, u313, u314, u315, u316, u317, u318, u319, u320, u321, u322, u323, u324, u325, u326, u327, u328, u329, u330, u331, u332], []⟩ w') :
    Code.wp Tryd.prog (kReg 40) Q ⟨#[u0, u1, u2, u3, u4, u5, u6, u7, u8, u9, u10, u11, u12, .slice (some ⟨gm, 0, none⟩) 16 cm, u14, .slice (some ⟨gv, 0, none⟩) 16 cv, u16, u17, .string P, u19, u20, u21, u22, u23, u24, u25, u26, u27, u28, u29, u30, u31, u32, u33, u34, u35, u36, u37, u38, u39, u40, u41, u42, u43, u44, u45, u46, u47, u48, u49, u50, u51, u52, u53, u54, u55, u56, u57, u58, u59, u60, u61, u62, u63, u64, u65, u66, u67, u68, u69, u70, u71, u72, u73, u74, u75, u76, u77, u78, u79, u80, u81, u82, u83, u84, u85, u86, u87, u88, u89, u90, u91, u92, u93, u94, u95, u96, u97, u98, u99, u100, u101, u102, u103, u104, u105, u106, u107, u108, u109, u110, u111, u112, u113, u114, u115, u116, u117, u118, u119, u120, u121, u122, u123, u124, u125, u126, u127, u128, u129, u130, u131, u132, u133, u134, u135, u136, u137, u138, u139, u140, u141, u142, u143, u144, u145, u146, u147, u148, u149, u150, u151, u152, u153, u154, u155, u156, u157, u158, u159, u160, u161, u162, u163, u164, u165, u166, u167, u168, u169, u170, u171, u172, u173, u174, u175, u176, u177, u178, u179, u180, u181, u182, u183, u184, u185, u186, u187, u188, u189, u190, u191, u192, u193, u194, u195, u196, u197, u198, u199, u200, u201, u202, u203, u204, u205, u206, u207, u208, u209, u210, u211, u212, u213, u214, u215, u216, u217, u218, u219, u220, u221, u222, u223, u224, u225, u226, u227, u228, u229, u230, u231, u232, u233, u234, u235, u236, u237, u238, u239, u240, u241, u242, u243, u244, u245, u246, u247, u248, u249, u250, u251, u252, u253, u254, u255, u256, u257, u258, u259, u260, u261, u262, u263, u264, u265, u266, u267, u268, u269, u270, u271, u272, u273, u274, u275, u276, u277, u278, u279, u280, u281, u282, u283, u284, u285, u286, u287, u288, u289, u290, u291, u292, u293, u294, u295, u296, u297, u298, u299, u300, u301, u302, u303, u304, u305, u306, u307, u308, u309, u310, u311, u312, u313, u314, u315, u316, u317, u318, u319, u320, u321, u322, u323, u324, u325, u326, u327, u328, u329, u330, u331, u332], []⟩ W := by
  have HK := Aside0.mk hK
  have HQ := Aside0.mk hQ
  have HV := Aside0.mk hV
  have HL := Aside0.mk hl
  have HNE := Aside0.mk hne
  have Ht0 := Aside0.mk ht0
  have Ht1 := Aside0.mk ht1
  obtain ⟨x, hx⟩ : ∃ x, x = Ms.getD t0.toNat 0 := ⟨_, rfl⟩
  obtain ⟨y, hy⟩ : ∃ y, y = Ms.getD t1.toNat 0 := ⟨_, rfl⟩
  have hx0 : W.cell? ⟨gm, (t0).toNat, none⟩ = some (.int .u32 x) := by rw [hx]; exact hm _ (by omega)
  have hx1 : W.cell? ⟨gm, (t1).toNat, none⟩ = some (.int .u32 y) := by rw [hy]; exact hm _ (by omega)
  have HX := Aside0.mk (And.intro hx hy)
  have p0 := eq_true h00
  have q0 := eq_true h01
  have p1 := eq_true h10
  have q1 := eq_true h11
  have pa := eq_true (show 14 < P.size by omega)
  have qa := eq_true (show ((14 : Int) < (P.size : Int)) by omega)
  have pb := eq_true (show 15 < P.size by omega)
  have qb := eq_true (show ((15 : Int) < (P.size : Int)) by omega)
  have ra : ∀ h : 14 < P.size, (((P[14]'h).toNat : Nat) : Int) = bt P 14 := bt_at P 14
  have rb : ∀ h : 15 < P.size, (((P[15]'h).toNat : Nat) : Int) = bt P 15 := bt_at P 15
  clear hP hm hK hQ hV hl hne ht0 ht1 hx hy h00 h01 h10 h11
  conv => arg 2; whnf
  refine start_ (n := 14) (S := fun w' => w'.cell? ⟨gm, (t0).toNat, none⟩ = some (.int .u32 x) ∧ w'.cell? ⟨gm, (t1).toNat, none⟩ = some (.int .u32 y)) (ds := []) #[false, false, false, false, false, false, false, false, false, false, false, false, false, false] (by kernel_rfl) rfl rfl ⟨hx0, hx1⟩ (fun hHeld => ?_); refine with_tabW kt40 kb40 (fun HT_ HW_ => ?_)
  have HVd := Aside0.mk HV.out.drew
  clear hx0 hx1
  obtain ⟨wd, hwd⟩ : ∃ W', W' = W.drew := ⟨_, rfl⟩
  rw [← hwd] at HVd hHeld ⊢
  have HWD := Aside0.mk hwd
  clear hwd
  refine pure_ (i := 0) (N := some 262) (v := ?_) (a' := ?_) #[true, false, false, false, false, false, false, false, false, false, false, false, false, false] rfl rfl (any_of HT_.out (by kernel_rfl)) (fun _ _ _ h => HQ.out _ _ _ _ h rfl) (Or.inl ⟨by rfl, ?_⟩) ?_ ?_
  rotate_left
  · intro w'
    go_simp
    with_reducible rfl
  rotate_left
  · simp only [Act.put, List.setIfInBounds_toArray, List.set_cons_zero, List.set_cons_succ, i64_w, i32_w]
    rfl
  refine pure_ (i := 1) (N := some 263) (v := ?_) (a' := ?_) #[true, true, false, false, false, false, false, false, false, false, false, false, false, false] rfl rfl (any_of HT_.out (by kernel_rfl)) (fun _ _ _ h => HQ.out _ _ _ _ h rfl) (Or.inl ⟨by rfl, ?_⟩) ?_ ?_
  rotate_left
  · intro w'
    go_simp
    with_reducible rfl
  rotate_left
  · simp only [Act.put, List.setIfInBounds_toArray, List.set_cons_zero, List.set_cons_succ, i64_w, i32_w]
    rfl
  refine pure_ (i := 2) (N := some 264) (v := ?_) (a' := ?_) #[true, true, true, false, false, false, false, false, false, false, false, false, false, false] rfl rfl (any_of HT_.out (by kernel_rfl)) (fun _ _ _ h => HQ.out _ _ _ _ h rfl) (Or.inl ⟨by rfl, ?_⟩) ?_ ?_
  rotate_left
  · intro w'
    go_simp
    with_reducible rfl
  rotate_left
  · simp only [Act.put, List.setIfInBounds_toArray, List.set_cons_zero, List.set_cons_succ, i64_w, i32_w]
    rfl
  refine pure_ (i := 7) (N := some 269) (v := ?_) (a' := ?_) #[true, true, true, false, false, false, false, true, false, false, false, false, false, false] rfl rfl (any_of HT_.out (by kernel_rfl)) (fun _ _ _ h => HQ.out _ _ _ _ h rfl) (Or.inl ⟨by rfl, ?_⟩) ?_ ?_
  rotate_left
  · intro w'
    go_simp
    with_reducible rfl
  rotate_left
  · simp only [Act.put, List.setIfInBounds_toArray, List.set_cons_zero, List.set_cons_succ, i64_w, i32_w]
    rfl
  refine pure_ (i := 8) (N := some 270) (v := ?_) (a' := ?_) #[true, true, true, false, false, false, false, true, true, false, false, false, false, false] rfl rfl (any_of HT_.out (by kernel_rfl)) (fun _ _ _ h => HQ.out _ _ _ _ h rfl) (Or.inl ⟨by rfl, ?_⟩) ?_ ?_
  rotate_left
  · intro w'
    go_simp
    with_reducible rfl
  rotate_left
  · simp only [Act.put, List.setIfInBounds_toArray, List.set_cons_zero, List.set_cons_succ, i64_w, i32_w]
    rfl
  refine take_ (i := 3) (N := some 265) (v := ?_) (a' := ?_) #[true, true, true, true, false, false, false, true, true, false, false, false, false, false] rfl rfl (take_ofW HT_.out HW_.out (by kernel_rfl)) (fun _ _ _ h => HQ.out _ _ _ _ h rfl) (Or.inl ⟨by rfl, ?_⟩) hHeld ?_ ?_
  rotate_left
  · rintro w' ⟨s0, s1⟩
    go_simp
    with_reducible rfl
  rotate_left
  · simp only [Act.put, List.setIfInBounds_toArray, List.set_cons_zero, List.set_cons_succ, i64_w, i32_w]
    rfl
  refine take_ (i := 9) (N := some 271) (v := ?_) (a' := ?_) #[true, true, true, true, false, false, false, true, true, true, false, false, false, false] rfl rfl (take_ofW HT_.out HW_.out (by kernel_rfl)) (fun _ _ _ h => HQ.out _ _ _ _ h rfl) (Or.inl ⟨by rfl, ?_⟩) hHeld ?_ ?_
  rotate_left
  · rintro w' ⟨s0, s1⟩
    go_simp
    with_reducible rfl
  rotate_left
  · simp only [Act.put, List.setIfInBounds_toArray, List.set_cons_zero, List.set_cons_succ, i64_w, i32_w]
    rfl
  refine one_ (i := 4) (N := some 266) #[true, true, true, true, true, false, false, true, true, true, false, false, false, false] rfl rfl (one_of HT_.out (by kernel_rfl)) (by decide) (fun K hK => ?_)
  refine goes_ Tryd.func50 (by kernel_rfl) rfl #[.int .u8 (bt P 14)] (by rfl) rfl rfl (by (try simp only [List.map_toArray, List.map_cons, List.map_nil]); first | done | rfl) ?_
  with_reducible refine (hamperref05_place.calls (bt P 14) t0 _ Ht0.out).mono ?_
  rintro e w' ⟨rfl, ⟨n0, rfl⟩⟩
  refine ⟨_, rfl, ?_⟩
  refine hK.out _ _ ⟨hHeld.1, hHeld.2⟩ (fun hHeld => ?_)
  clear hK K
  refine norm_ (a' := ?_) ?_ ?_
  rotate_left
  · show Act.put _ (some 266) _ = _
    simp only [Act.put, List.setIfInBounds_toArray, List.set_cons_zero, List.set_cons_succ, i64_w, i32_w]
    rfl
  refine pure_ (i := 5) (N := some 267) (v := ?_) (a' := ?_) #[true, true, true, true, true, true, false, true, true, true, false, false, false, false] rfl rfl (any_of HT_.out (by kernel_rfl)) (fun _ _ _ h => HQ.out _ _ _ _ h rfl) (Or.inl ⟨by rfl, ?_⟩) ?_ ?_
  rotate_left
  · intro w'
    go_simp
    with_reducible rfl
  rotate_left
  · simp only [Act.put, List.setIfInBounds_toArray, List.set_cons_zero, List.set_cons_succ, i64_w, i32_w]
    rfl
  refine take_ (i := 6) (N := some 268) (v := ?_) (a' := ?_) #[true, true, true, true, true, true, true, true, true, true, false, false, false, false] rfl rfl (take_ofW HT_.out HW_.out (by kernel_rfl)) (fun _ _ _ h => HQ.out _ _ _ _ h rfl) (Or.inl ⟨by rfl, ?_⟩) hHeld ?_ ?_
  rotate_left
  · rintro w' ⟨s0, s1⟩
    go_simp
    with_reducible rfl
  rotate_left
  · simp only [Act.put, List.setIfInBounds_toArray, List.set_cons_zero, List.set_cons_succ, i64_w, i32_w]
    rfl
  refine one_ (i := 10) (N := some 272) #[true, true, true, true, true, true, true, true, true, true, true, false, false, false] rfl rfl (one_of HT_.out (by kernel_rfl)) (by decide) (fun K hK => ?_)
  refine goes_ Tryd.func50 (by kernel_rfl) rfl #[.int .u8 (bt P 15)] (by rfl) rfl rfl (by (try simp only [List.map_toArray, List.map_cons, List.map_nil]); first | done | rfl) ?_
  with_reducible refine (hamperref05_place.calls (bt P 15) t1 _ Ht1.out).mono ?_
  rintro e w' ⟨rfl, ⟨n1, rfl⟩⟩
  refine ⟨_, rfl, ?_⟩
  refine hK.out _ _ ⟨hHeld.1, hHeld.2⟩ (fun hHeld => ?_)
  clear hK K
  refine norm_ (a' := ?_) ?_ ?_
  rotate_left
  · show Act.put _ (some 272) _ = _
    simp only [Act.put, List.setIfInBounds_toArray, List.set_cons_zero, List.set_cons_succ, i64_w, i32_w]
    rfl
  refine pure_ (i := 11) (N := some 273) (v := ?_) (a' := ?_) #[true, true, true, true, true, true, true, true, true, true, true, true, false, false] rfl rfl (any_of HT_.out (by kernel_rfl)) (fun _ _ _ h => HQ.out _ _ _ _ h rfl) (Or.inl ⟨by rfl, ?_⟩) ?_ ?_
  rotate_left
  · intro w'
    go_simp
    with_reducible rfl
  rotate_left
  · simp only [Act.put, List.setIfInBounds_toArray, List.set_cons_zero, List.set_cons_succ, i64_w, i32_w]
    rfl
  refine take_ (i := 12) (N := some 274) (v := ?_) (a' := ?_) #[true, true, true, true, true, true, true, true, true, true, true, true, true, false] rfl rfl (take_ofW HT_.out HW_.out (by kernel_rfl)) (fun _ _ _ h => HQ.out _ _ _ _ h rfl) (Or.inl ⟨by rfl, ?_⟩) hHeld ?_ ?_
  rotate_left
  · rintro w' ⟨s0, s1⟩
    go_simp
    with_reducible rfl
  rotate_left
  · simp only [Act.put, List.setIfInBounds_toArray, List.set_cons_zero, List.set_cons_succ, i64_w, i32_w]
    rfl
  refine one_ (i := 13) (N := some 275) #[true, true, true, true, true, true, true, true, true, true, true, true, true, true] rfl rfl (one_of HT_.out (by kernel_rfl)) (by decide) (fun K hK => ?_)
  refine goes_ Tryd.func49 (by kernel_rfl) rfl #[.slice (some ⟨gv, 0, none⟩) 16 cv, .int .i64 3, .int .i64 4, .int .i64 9, .int .i64 14, .int .u32 x, .int .u32 y] (by rfl) rfl rfl (by (try simp only [List.map_toArray, List.map_cons, List.map_nil]); first | done | rfl) ?_
  have hc := mix_calls gv cv V 3 4 9 14 x y ((wd.drewN n0).drewN n1) ((HVd.out.drewN n0).drewN n1) HL.out (by decide) (by decide) (by decide) (by decide) (by decide) (by decide) (by decide) (by decide) (by decide) (by decide)
  refine Calls.mono (show Calls _ _ _ _ _ from hc) ?_
  rintro e w5 ⟨rfl, hv, hk⟩
  refine ⟨_, rfl, ?_⟩
  have hs0 := Bk.keep_cell hk hHeld.1 HNE.out
  have hs1 := Bk.keep_cell hk hHeld.2 HNE.out
  have HV5 := Aside0.mk hv
  have HK5 := Aside0.mk hk
  clear hv hk hc
  refine hK.out _ _ ⟨hs0, hs1⟩ (fun hHeld => ?_)
  clear hK K
  refine norm_ (a' := ?_) ?_ ?_
  rotate_left
  · show Act.put _ (some 275) _ = _
    simp only [Act.put, List.setIfInBounds_toArray, List.set_cons_zero, List.set_cons_succ, i64_w, i32_w]
    rfl
  refine done_ (done_of HT_.out (by kernel_rfl)) ?_
  go_wp2_with fail
  refine HK.out _ _ _ _ _ _ _ _ _ _ _ _ _ _ _ ?_ ?_
  · rw [← HX.out.1, ← HX.out.2]
    exact HV5.out
  · have hk := HK5.out
    rw [HWD.out] at hk
    exact ⟨hk.size, hk.block, hk.os, hk.tape, hk.output⟩
end Go.Proofs.YtbeibmdccjgcmaaDoor.Rf5
namespace Go.Proofs.YtbeibmdccjgcmaaDoor.Rf5
open Go.RowKit Go.Proofs.YtbeibmdccjgcmaaDoorW.PrintWords Go.Proofs.YtbeibmdccjgcmaaDoorW.PrintLast Go.Proofs.YtbeibmdccjgcmaaDoorW.PrintMore Go.Proofs.YtbeibmdccjgcmaaDoor.PRef
open Go.Proofs.YtbeibmdccjgcmaaDoor.Bk (firstsL initL keyL strL digest blakeKeyed compress wordsL wordAt veeL outL outB rowsL mixL finL)
set_option linter.unusedVariables false
set_option linter.unusedSimpArgs false
attribute [local go_sem] max2_int min2_int max_two min_two max_three min_three max_four min_four
open Go.Proofs.YtbeibmdccjgcmaaDoor.Bk (inner outer)
theorem place_row (r : Nat) (hr : r < 10) : ∀ j : Fin 16, (placesB.getD r ⟨#[]⟩).size = 16 ∧ hamperref05_place.f (bt (placesB.getD r ⟨#[]⟩) j.val) = some ((rowsL.getD r []).getD j.val 0) ∧ 0 ≤ (rowsL.getD r []).getD j.val 0 ∧ (rowsL.getD r []).getD j.val 0 < 16 := fun j => place_all ⟨r, hr⟩ j
set_option maxHeartbeats 8000000 in
set_option maxRecDepth 1000000 in
theorem m_rounds {u0 u1 u2 u3 u4 u5 u6 u7 u8 u9 u10 u11 u12 u14 u18 u19 u20 u21 u22 u23 u24 u25 u26 u27 u28 u29 u30 u31 u32 u33 u34 u35 u36 u37 u38 u39 u40 u41 u42 u43 u44 u45 u46 u47 u48 u49 u50 u51 u52 u53 u54 u55 u56 u57 u58 u59 u60 u61 u62 u63 u64 u65 u66 u67 u68 u69 u70 u71 u72 u73 u74 u75 u76 u77 u78 u79 u80 u81 u82 u83 u84 u85 u86 u87 u88 u89 u90 u91 u92 u93 u94 u95 u96 u97 u98 u99 u100 u101 u102 u103 u104 u105 u106 u107 u108 u109 u110 u111 u112 u113 u114 u115 u116 u117 u118 u119 u120 u121 u122 u123 u124 u125 u126 u127 u128 u129 u130 u131 u132 u133 u134 u135 u136 u137 u138 u139 u140 u141 u142 u143 u144 u145 u146 u147 u148 u149 u150 u151 u152 u153 u154 u155 u156 u157 u158 u159 u160 u161 u162 u163 u164 u165 u166 u167 u168 u169 u170 u171 u172 u173 u174 u175 u176 u177 u178 u179 u180 u181 u182 u183 u184 u185 u186 u187 u188 u189 u190 u191 u192 u193 u194 u195 u196 u197 u198 u199 u200 u201 u202 u203 u204 u205 u206 u207 u208 u209 u210 u211 u212 u213 u214 u215 u216 u217 u218 u219 u220 u221 u222 u223 u224 u225 u226 u227 u228 u229 u230 u231 u232 u233 u234 u235 u236 u237 u238 u239 u240 u241 u242 u243 u244 u245 u246 u247 u248 u249 u250 u251 u252 u253 u254 u255 u256 u257 u258 u259 u260 u261 u262 u263 u264 u265 u266 u267 u268 u269 u270 u271 u272 u273 u274 u275 u276 u277 u278 u279 u280 u281 u282 u283 u284 u285 u286 u287 u288 u289 u290 u291 u292 u293 u294 u295 u296 u297 u298 u299 u300 u301 u302 u303 u304 u305 u306 u307 u308 u309 u310 u311 u312 u313 u314 u315 u316 u317 u318 u319 u320 u321 u322 u323 u324 u325 u326 u327 u328 u329 u330 u331 u332 : Value} (gv cv gm cm gl cl : Nat) (V Ms : List Int) (W : World) (hm : ∀ j, j < 16 → W.cell? ⟨gm, j, none⟩ = some (.int .u32 (Ms.getD j 0))) (hp : ∀ j, j < 10 → W.cell? ⟨gl, j, none⟩ = some (.string (placesB.getD j ⟨#[]⟩))) (hne : gm ≠ gv) (hne2 : gl ≠ gv) (hl : V.length = 16) (hV : VAt W gv V)
    {K : Act → World → Prop} {Q : Exit → Act → World → Prop} (hQ : ∀ c a a' w, Q (Exit.panic c) a w → a.defers = a'.defers → Q (Exit.panic c) a' w)
    (hK : ∀ (x17 x18 x156 x157 x158 x159 x160 x161 x162 x163 x164 x165 x166 x167 x168 x169 x170 x171 x172 x173 x174 x175 x176 x177 x178 x179 x180 x181 x182 x183 x184 x185 x186 x187 x188 x189 x190 x191 x192 x193 x194 x195 x196 x197 x198 x199 x200 x201 x202 x203 x204 x205 x206 x207 x208 x209 x210 x211 x212 x213 x214 x215 x216 x217 x218 x219 x220 x221 x222 x223 x224 x225 x226 x227 x228 x229 x230 x231 x232 x233 x234 x235 x236 x237 x238 x239 x240 x241 x242 x243 x244 x245 x246 x247 x248 x249 x250 x251 x252 x253 x254 x255 x256 x257 x258 x259 x260 x261 x262 x263 x264 x265 x266 x267 x268 x269 x270 x271 x272 x273 x274 x275 : Value) (w' : World), VAt w' gv (outer Ms V 10) → Bk.KeepBut W w' gv none → K ⟨#[u0, u1, u2, u3, u4, u5, u6, u7, u8, u9, u10, u11, u12, .slice (some ⟨gm, 0, none⟩) 16 cm, u14, .slice (some ⟨gv, 0, none⟩) 16 cv, .slice (some ⟨gl, 0, none⟩) 10 cl, x17, x18, u19, u20, u21, u22, u23, u24, u25, u26, u27, u28, u29, u30, u31, u32, u33, u34, u35, u36, u37, u38, u39, u40, u41, u42, u43, u44, u45, u46, u47, u48, u49, u50, u51, u52, u53, u54, u55, u56, u57, u58, u59, u60, u61, u62, u63, u64, u65, u66, u67, u68, u69, u70, u71, u72, u73, u74, u75, u76, u77, u78, u79, u80, u81, u82, u83, u84, u85, u86, u87, u88, u89, u90, u91, u92, u93, u94, u95, u96, u97, u98, u99, u100, u101, u102, u103, u104, u105, u106, u107, u108, u109, u110, u111, u112, u113, u114, u115, u116, u117, u118, u119, u120, u121, u122, u123, u124, u125, u126, u127, u128, u129, u130, u131, u132, u133, u134, u135, u136, u137, u138, u139, u140, u141, u142, u143, u144, u145, u146, u147, u148, u149, u150, u151, u152, u153, u154, u155, x156, x157, x158, x159, x160, x161, x162, x163, x164, x165, x166, x167, x168, x169, x170, x171, x172, x173, x174, x175, x176, x177, x178, x179, x180, x181, x182, x183, x184, x185, x186, x187, x188, x189, x190, x191, x192, x193, x194, x195, x196, x197, x198, x199, x200, x201, x202, x203, x204, x205, x206, x207, x208, x209, x210, x211, x212, x213, x214, x215, x216, x217, x218, x219, x220, x221, x222, x223, x224, x225, x226, x227, x228, x229, x230, x231, x232, x233, x234, x235, x236, x237, x238, x239, x240, x241, x242, x243, x244, x245, x246, x247, x248, x249, x250, x251, x252, x253, x254, x255, x256, x257, x258, x259, x260, x261, x262, x263, x264, x265, x266, x267, x268, x269, x270, x271, x272, x273, x274, x275, u276, u277, u278, u279, u280, u281, u282, u283, u284, u285, u286, u287, u288, u289, u290, u291, u292, u293, u294, u295, u296, u297, u298, u299, u300, u301, u302, u303, u304, u305, u306, u307, u308, u309, u310, u311, u312, u313, u314, u315, u316, u317, u318, u319, u320, u321, u322, u323, u324, u325, u326, u327, u328, u329, u330, u331, u332], []⟩ w') :
    Code.wp Tryd.prog (kBlk 8) (Exit.then K Q) ⟨#[u0, u1, u2, u3, u4, u5, u6, u7, u8, u9, u10, u11, u12, .slice (some ⟨gm, 0, none⟩) 16 cm, u14, .slice (some ⟨gv, 0, none⟩) 16 cv, .slice (some ⟨gl, 0, none⟩) 10 cl, .int .i64 0, u18, u19, u20, u21, u22, u23, u24, u25, u26, u27, u28, u29, u30, u31, u32, u33, u34, u35, u36, u37, u38, u39, u40, u41, u42, u43, u44, u45, u46, u47, u48, u49, u50, u51, u52, u53, u54, u55, u56, u57, u58, u59, u60, u61, u62, u63, u64, u65, u66, u67, u68, u69, u70, u71, u72, u73, u74, u75, u76, u77, u78, u79, u80, u81, u82, u83, u84, u85, u86, u87, u88, u89, u90, u91, u92, u93, u94, u95, u96, u97, u98, u99, u100, u101, u102, u103, u104, u105, u106, u107, u108, u109, u110, u111, u112, u113, u114, u115, u116, u117, u118, u119, u120, u121, u122, u123, u124, u125, u126, u127, u128, u129, u130, u131, u132, u133, u134, u135, u136, u137, u138, u139, u140, u141, u142, u143, u144, u145, u146, u147, u148, u149, u150, u151, u152, u153, u154, u155, u156, u157, u158, u159, u160, u161, u162, u163, u164, u165, u166, u167, u168, u169, u170, u171, u172, u173, u174, u175, u176, u177, u178, u179, u180, u181, u182, u183, u184, u185, u186, u187, u188, u189, u190, u191, u192, u193, u194, u195, u196, u197, u198, u199, u200, u201, u202, u203, u204, u205, u206, u207, u208, u209, u210, u211, u212, u213, u214, u215, u216, u217, u218, u219, u220, u221, u222, u223, u224, u225, u226, u227, u228, u229, u230, u231, u232, u233, u234, u235, u236, u237, u238, u239, u240, u241, u242, u243, u244, u245, u246, u247, u248, u249, u250, u251, u252, u253, u254, u255, u256, u257, u258, u259, u260, u261, u262, u263, u264, u265, u266, u267, u268, u269, u270, u271, u272, u273, u274, u275, u276, u277, u278, u279, u280, u281, u282, u283, u284, u285, u286, u287, u288, u289, u290, u291, u292, u293, u294, u295, u296, u297, u298, u299, u300, u301, u302, u303, u304, u305, u306, u307, u308, u309, u310, u311, u312, u313, u314, u315, u316, u317, u318, u319, u320, u321, u322, u323, u324, u325, u326, u327, u328, u329, u330, u331, u332], []⟩ W := by
  have HK := Aside0.mk hK
  have HQ := Aside0.mk hQ
  have HC := Aside0.mk hm
  have HPL := Aside0.mk hp
  have HL := Aside0.mk hl
  have HNE := Aside0.mk hne
  have HNE2 := Aside0.mk hne2
  have H0 := Aside0.mk hV
  clear hK hQ hm hp hl hne hne2 hV
  conv => arg 2; whnf
  go_wp2_with fail
  go_loopw [17] (fun iv wr => ∃ k : Nat, k ≤ 10 ∧ iv = .int .i64 (k : Int) ∧ Aside0 (VAt wr gv (outer Ms V k) ∧ Bk.KeepBut W wr gv none)) (fun iv _ => 10 - (intOf iv).toNat)
  case atStart => exact ⟨0, Nat.zero_le _, rfl, Aside0.mk ⟨H0.out, Bk.KeepBut.refl _ _ _⟩⟩
  case round =>
    obtain ⟨k, hk, rfl, HV⟩ := hrel
    by_cases hlt : k < 10
    · obtain ⟨P, hP⟩ : ∃ P, P = placesB.getD k ⟨#[]⟩ := ⟨_, rfl⟩
      have hcp : wr.cell? ⟨gl, k, none⟩ = some (.string P) := by rw [hP]; exact Bk.keep_cell HV.out.2 (HPL.out k hlt) HNE2.out
      obtain ⟨R0, hR0⟩ : ∃ R, R = rowsL.getD k [] := ⟨_, rfl⟩
      have hpl := place_row k hlt
      rw [← hP, ← hR0] at hpl
      have PL := Aside0.mk hpl
      have HP := Aside0.mk (hpl ⟨0, by decide⟩).1
      have HR0 := Aside0.mk hR0
      obtain ⟨V0, hV0⟩ : ∃ L, L = outer Ms V k := ⟨_, rfl⟩
      have HL0 := Aside0.mk (show V0.length = 16 by rw [hV0, Bk.outer_len, HL.out])
      have HVK := Aside0.mk hV0
      have HM0 := Aside0.mk (show (VAt wr gv V0 ∧ V0.length = 16) ∧ Bk.KeepBut W wr gv none from ⟨⟨by rw [hV0]; exact HV.out.1, HL0.out⟩, HV.out.2⟩)
      clear hP hR0 hpl hV0 HV
      have HV0 := Aside0.mk (show V0 = Bk.inner Ms R0 V0 0 from rfl)
      go_upto_region 33 with fail
      clear hcp
      go_upto_region 33 with fail
      refine m_mix0 gv cv gm cm P V0 Ms _ _ _ HP.out (PL.out ⟨0, by decide⟩).2.1 (PL.out ⟨1, by decide⟩).2.1 (PL.out ⟨0, by decide⟩).2.2.1 (PL.out ⟨0, by decide⟩).2.2.2 (PL.out ⟨1, by decide⟩).2.2.1 (PL.out ⟨1, by decide⟩).2.2.2 (fun j hj => Bk.keep_cell HM0.out.2 (HC.out j hj) HNE.out) HNE.out HM0.out.1.2 HM0.out.1.1 (fun c a a' w h e => HQ.out c a a' w h e) ?_
      intro y164 y165 y166 y167 y168 y169 y170 y171 y172 y173 y174 y175 y176 y177 w1 hv hk
      obtain ⟨V1, hV1⟩ : ∃ L, L = Bk.inner Ms R0 V0 1 := ⟨_, rfl⟩
      have HV1 := Aside0.mk hV1
      have HM1 := Aside0.mk (show (VAt w1 gv V1 ∧ V1.length = 16) ∧ Bk.KeepBut W w1 gv none from ⟨⟨by rw [hV1, show Bk.inner Ms R0 V0 1 = mixL (Bk.inner Ms R0 V0 0) 0 4 8 12 (Ms.getD (R0.getD 0 0).toNat 0) (Ms.getD (R0.getD 1 0).toNat 0) from rfl, ← HV0.out]; exact hv, by rw [hV1, Bk.inner_len, HL0.out]⟩, HM0.out.2.trans hk⟩)
      clear hv hk hV1
      go_upto_region 34 with fail
      refine m_mix1 gv cv gm cm P V1 Ms _ _ _ HP.out (PL.out ⟨2, by decide⟩).2.1 (PL.out ⟨3, by decide⟩).2.1 (PL.out ⟨2, by decide⟩).2.2.1 (PL.out ⟨2, by decide⟩).2.2.2 (PL.out ⟨3, by decide⟩).2.2.1 (PL.out ⟨3, by decide⟩).2.2.2 (fun j hj => Bk.keep_cell HM1.out.2 (HC.out j hj) HNE.out) HNE.out HM1.out.1.2 HM1.out.1.1 (fun c a a' w h e => HQ.out c a a' w h e) ?_
      intro y178 y179 y180 y181 y182 y183 y184 y185 y186 y187 y188 y189 y190 y191 w2 hv hk
      obtain ⟨V2, hV2⟩ : ∃ L, L = Bk.inner Ms R0 V0 2 := ⟨_, rfl⟩
      have HV2 := Aside0.mk hV2
      have HM2 := Aside0.mk (show (VAt w2 gv V2 ∧ V2.length = 16) ∧ Bk.KeepBut W w2 gv none from ⟨⟨by rw [hV2, show Bk.inner Ms R0 V0 2 = mixL (Bk.inner Ms R0 V0 1) 1 5 9 13 (Ms.getD (R0.getD 2 0).toNat 0) (Ms.getD (R0.getD 3 0).toNat 0) from rfl, ← HV1.out]; exact hv, by rw [hV2, Bk.inner_len, HL0.out]⟩, HM1.out.2.trans hk⟩)
      clear hv hk hV2
      go_upto_region 35 with fail
      refine m_mix2 gv cv gm cm P V2 Ms _ _ _ HP.out (PL.out ⟨4, by decide⟩).2.1 (PL.out ⟨5, by decide⟩).2.1 (PL.out ⟨4, by decide⟩).2.2.1 (PL.out ⟨4, by decide⟩).2.2.2 (PL.out ⟨5, by decide⟩).2.2.1 (PL.out ⟨5, by decide⟩).2.2.2 (fun j hj => Bk.keep_cell HM2.out.2 (HC.out j hj) HNE.out) HNE.out HM2.out.1.2 HM2.out.1.1 (fun c a a' w h e => HQ.out c a a' w h e) ?_
      intro y192 y193 y194 y195 y196 y197 y198 y199 y200 y201 y202 y203 y204 y205 w3 hv hk
      obtain ⟨V3, hV3⟩ : ∃ L, L = Bk.inner Ms R0 V0 3 := ⟨_, rfl⟩
      have HV3 := Aside0.mk hV3
      have HM3 := Aside0.mk (show (VAt w3 gv V3 ∧ V3.length = 16) ∧ Bk.KeepBut W w3 gv none from ⟨⟨by rw [hV3, show Bk.inner Ms R0 V0 3 = mixL (Bk.inner Ms R0 V0 2) 2 6 10 14 (Ms.getD (R0.getD 4 0).toNat 0) (Ms.getD (R0.getD 5 0).toNat 0) from rfl, ← HV2.out]; exact hv, by rw [hV3, Bk.inner_len, HL0.out]⟩, HM2.out.2.trans hk⟩)
      clear hv hk hV3
      go_upto_region 36 with fail
      refine m_mix3 gv cv gm cm P V3 Ms _ _ _ HP.out (PL.out ⟨6, by decide⟩).2.1 (PL.out ⟨7, by decide⟩).2.1 (PL.out ⟨6, by decide⟩).2.2.1 (PL.out ⟨6, by decide⟩).2.2.2 (PL.out ⟨7, by decide⟩).2.2.1 (PL.out ⟨7, by decide⟩).2.2.2 (fun j hj => Bk.keep_cell HM3.out.2 (HC.out j hj) HNE.out) HNE.out HM3.out.1.2 HM3.out.1.1 (fun c a a' w h e => HQ.out c a a' w h e) ?_
      intro y206 y207 y208 y209 y210 y211 y212 y213 y214 y215 y216 y217 y218 y219 w4 hv hk
      obtain ⟨V4, hV4⟩ : ∃ L, L = Bk.inner Ms R0 V0 4 := ⟨_, rfl⟩
      have HV4 := Aside0.mk hV4
      have HM4 := Aside0.mk (show (VAt w4 gv V4 ∧ V4.length = 16) ∧ Bk.KeepBut W w4 gv none from ⟨⟨by rw [hV4, show Bk.inner Ms R0 V0 4 = mixL (Bk.inner Ms R0 V0 3) 3 7 11 15 (Ms.getD (R0.getD 6 0).toNat 0) (Ms.getD (R0.getD 7 0).toNat 0) from rfl, ← HV3.out]; exact hv, by rw [hV4, Bk.inner_len, HL0.out]⟩, HM3.out.2.trans hk⟩)
      clear hv hk hV4
      go_upto_region 37 with fail
      refine m_mix4 gv cv gm cm P V4 Ms _ _ _ HP.out (PL.out ⟨8, by decide⟩).2.1 (PL.out ⟨9, by decide⟩).2.1 (PL.out ⟨8, by decide⟩).2.2.1 (PL.out ⟨8, by decide⟩).2.2.2 (PL.out ⟨9, by decide⟩).2.2.1 (PL.out ⟨9, by decide⟩).2.2.2 (fun j hj => Bk.keep_cell HM4.out.2 (HC.out j hj) HNE.out) HNE.out HM4.out.1.2 HM4.out.1.1 (fun c a a' w h e => HQ.out c a a' w h e) ?_
      intro y220 y221 y222 y223 y224 y225 y226 y227 y228 y229 y230 y231 y232 y233 w5 hv hk
      obtain ⟨V5, hV5⟩ : ∃ L, L = Bk.inner Ms R0 V0 5 := ⟨_, rfl⟩
      have HV5 := Aside0.mk hV5
      have HM5 := Aside0.mk (show (VAt w5 gv V5 ∧ V5.length = 16) ∧ Bk.KeepBut W w5 gv none from ⟨⟨by rw [hV5, show Bk.inner Ms R0 V0 5 = mixL (Bk.inner Ms R0 V0 4) 0 5 10 15 (Ms.getD (R0.getD 8 0).toNat 0) (Ms.getD (R0.getD 9 0).toNat 0) from rfl, ← HV4.out]; exact hv, by rw [hV5, Bk.inner_len, HL0.out]⟩, HM4.out.2.trans hk⟩)
      clear hv hk hV5
      go_upto_region 38 with fail
      refine m_mix5 gv cv gm cm P V5 Ms _ _ _ HP.out (PL.out ⟨10, by decide⟩).2.1 (PL.out ⟨11, by decide⟩).2.1 (PL.out ⟨10, by decide⟩).2.2.1 (PL.out ⟨10, by decide⟩).2.2.2 (PL.out ⟨11, by decide⟩).2.2.1 (PL.out ⟨11, by decide⟩).2.2.2 (fun j hj => Bk.keep_cell HM5.out.2 (HC.out j hj) HNE.out) HNE.out HM5.out.1.2 HM5.out.1.1 (fun c a a' w h e => HQ.out c a a' w h e) ?_
      intro y234 y235 y236 y237 y238 y239 y240 y241 y242 y243 y244 y245 y246 y247 w6 hv hk
      obtain ⟨V6, hV6⟩ : ∃ L, L = Bk.inner Ms R0 V0 6 := ⟨_, rfl⟩
      have HV6 := Aside0.mk hV6
      have HM6 := Aside0.mk (show (VAt w6 gv V6 ∧ V6.length = 16) ∧ Bk.KeepBut W w6 gv none from ⟨⟨by rw [hV6, show Bk.inner Ms R0 V0 6 = mixL (Bk.inner Ms R0 V0 5) 1 6 11 12 (Ms.getD (R0.getD 10 0).toNat 0) (Ms.getD (R0.getD 11 0).toNat 0) from rfl, ← HV5.out]; exact hv, by rw [hV6, Bk.inner_len, HL0.out]⟩, HM5.out.2.trans hk⟩)
      clear hv hk hV6
      go_upto_region 39 with fail
      refine m_mix6 gv cv gm cm P V6 Ms _ _ _ HP.out (PL.out ⟨12, by decide⟩).2.1 (PL.out ⟨13, by decide⟩).2.1 (PL.out ⟨12, by decide⟩).2.2.1 (PL.out ⟨12, by decide⟩).2.2.2 (PL.out ⟨13, by decide⟩).2.2.1 (PL.out ⟨13, by decide⟩).2.2.2 (fun j hj => Bk.keep_cell HM6.out.2 (HC.out j hj) HNE.out) HNE.out HM6.out.1.2 HM6.out.1.1 (fun c a a' w h e => HQ.out c a a' w h e) ?_
      intro y248 y249 y250 y251 y252 y253 y254 y255 y256 y257 y258 y259 y260 y261 w7 hv hk
      obtain ⟨V7, hV7⟩ : ∃ L, L = Bk.inner Ms R0 V0 7 := ⟨_, rfl⟩
      have HV7 := Aside0.mk hV7
      have HM7 := Aside0.mk (show (VAt w7 gv V7 ∧ V7.length = 16) ∧ Bk.KeepBut W w7 gv none from ⟨⟨by rw [hV7, show Bk.inner Ms R0 V0 7 = mixL (Bk.inner Ms R0 V0 6) 2 7 8 13 (Ms.getD (R0.getD 12 0).toNat 0) (Ms.getD (R0.getD 13 0).toNat 0) from rfl, ← HV6.out]; exact hv, by rw [hV7, Bk.inner_len, HL0.out]⟩, HM6.out.2.trans hk⟩)
      clear hv hk hV7
      go_upto_region 40 with fail
      refine m_mix7 gv cv gm cm P V7 Ms _ _ _ HP.out (PL.out ⟨14, by decide⟩).2.1 (PL.out ⟨15, by decide⟩).2.1 (PL.out ⟨14, by decide⟩).2.2.1 (PL.out ⟨14, by decide⟩).2.2.2 (PL.out ⟨15, by decide⟩).2.2.1 (PL.out ⟨15, by decide⟩).2.2.2 (fun j hj => Bk.keep_cell HM7.out.2 (HC.out j hj) HNE.out) HNE.out HM7.out.1.2 HM7.out.1.1 (fun c a a' w h e => HQ.out c a a' w h e) ?_
      intro y262 y263 y264 y265 y266 y267 y268 y269 y270 y271 y272 y273 y274 y275 w8 hv hk
      obtain ⟨V8, hV8⟩ : ∃ L, L = Bk.inner Ms R0 V0 8 := ⟨_, rfl⟩
      have HV8 := Aside0.mk hV8
      have HM8 := Aside0.mk (show (VAt w8 gv V8 ∧ V8.length = 16) ∧ Bk.KeepBut W w8 gv none from ⟨⟨by rw [hV8, show Bk.inner Ms R0 V0 8 = mixL (Bk.inner Ms R0 V0 7) 3 4 9 14 (Ms.getD (R0.getD 14 0).toNat 0) (Ms.getD (R0.getD 15 0).toNat 0) from rfl, ← HV7.out]; exact hv, by rw [hV8, Bk.inner_len, HL0.out]⟩, HM7.out.2.trans hk⟩)
      clear hv hk hV8
      go_wp2_with fail
      go_roundw
      case rel =>
        refine ⟨k + 1, hlt, rfl, Aside0.mk ⟨?_, HM8.out.2⟩⟩
        have h := HM8.out.1.1
        rw [HV8.out] at h
        rw [show outer Ms V (k + 1) = Bk.inner Ms (rowsL.getD k []) (outer Ms V k) 8 from rfl, ← HR0.out]
        rw [← HVK.out]
        exact h
      case measure => simp [intOf]; omega
    · obtain rfl : k = 10 := by omega
      go_wp2_with fail
      exact HK.out _ _ _ _ _ _ _ _ _ _ _ _ _ _ _ _ _ _ _ _ _ _ _ _ _ _ _ _ _ _ _ _ _ _ _ _ _ _ _ _ _ _ _ _ _ _ _ _ _ _ _ _ _ _ _ _ _ _ _ _ _ _ _ _ _ _ _ _ _ _ _ _ _ _ _ _ _ _ _ _ _ _ _ _ _ _ _ _ _ _ _ _ _ _ _ _ _ _ _ _ _ _ _ _ _ _ _ _ _ _ _ _ _ _ _ _ _ _ _ _ _ _ _ HV.out.1 HV.out.2
end Go.Proofs.YtbeibmdccjgcmaaDoor.Rf5
namespace Go.Proofs.YtbeibmdccjgcmaaDoor.Rf5
open Go.RowKit Go.Proofs.YtbeibmdccjgcmaaDoorW.PrintWords Go.Proofs.YtbeibmdccjgcmaaDoorW.PrintLast Go.Proofs.YtbeibmdccjgcmaaDoorW.PrintMore Go.Proofs.YtbeibmdccjgcmaaDoor.PRef
open Go.Proofs.YtbeibmdccjgcmaaDoor.Bk (firstsL initL keyL strL digest blakeKeyed compress wordsL wordAt veeL outL outB rowsL mixL finL)
set_option linter.unusedVariables false
set_option linter.unusedSimpArgs false
attribute [local go_sem] max2_int min2_int max_two min_two max_three min_three max_four min_four
open Go.Proofs.YtbeibmdccjgcmaaDoor.Bk (inner outer)
theorem VAt.below {W W1 : World} {g : Nat} {L : List Int} (h : VAt W g L) (hg : g < W.heap.size) (hb : Below W.heap.size W W1) : VAt W1 g L :=
  ⟨fun i hi => (World.cell?_of_block (a := ⟨g, i, none⟩) (hb.block g hg)).trans (h.cell i hi), fun i hi => (World.frozen?_of_block (a := ⟨g, i, none⟩) (hb.block g hg)).trans (h.free i hi)⟩
theorem VAt.keep {W W1 : World} {g g' : Nat} {L : List Int} (h : VAt W g L) (hg : g < W.heap.size) (hk : Bk.KeepBut W W1 g' none) (hne : g ≠ g') : VAt W1 g L :=
  ⟨fun i hi => (World.cell?_of_block (a := ⟨g, i, none⟩) (hk.block g hg hne (by simp))).trans (h.cell i hi), fun i hi => (World.frozen?_of_block (a := ⟨g, i, none⟩) (hk.block g hg hne (by simp))).trans (h.free i hi)⟩
set_option maxHeartbeats 8000000 in
set_option maxRecDepth 1000000 in
theorem m_round {u0 u1 u2 u3 u4 u5 u11 u12 u13 u14 u15 u16 u17 u18 u19 u20 u21 u22 u23 u24 u25 u26 u27 u28 u29 u30 u31 u32 u33 u34 u35 u36 u37 u38 u39 u40 u41 u42 u43 u44 u45 u46 u47 u48 u49 u50 u51 u52 u53 u54 u55 u56 u57 u58 u59 u60 u61 u62 u63 u64 u65 u66 u67 u68 u69 u70 u71 u72 u73 u74 u75 u76 u77 u78 u79 u80 u81 u82 u83 u84 u85 u86 u87 u88 u89 u90 u91 u92 u93 u94 u95 u96 u97 u98 u99 u100 u101 u102 u103 u104 u105 u106 u107 u108 u109 u110 u111 u112 u113 u114 u115 u116 u117 u118 u119 u120 u121 u122 u123 u124 u125 u126 u127 u128 u129 u130 u131 u132 u133 u134 u135 u136 u137 u138 u139 u140 u141 u142 u143 u144 u145 u146 u147 u148 u149 u150 u151 u152 u153 u154 u155 u156 u157 u158 u159 u160 u161 u162 u163 u164 u165 u166 u167 u168 u169 u170 u171 u172 u173 u174 u175 u176 u177 u178 u179 u180 u181 u182 u183 u184 u185 u186 u187 u188 u189 u190 u191 u192 u193 u194 u195 u196 u197 u198 u199 u200 u201 u202 u203 u204 u205 u206 u207 u208 u209 u210 u211 u212 u213 u214 u215 u216 u217 u218 u219 u220 u221 u222 u223 u224 u225 u226 u227 u228 u229 u230 u231 u232 u233 u234 u235 u236 u237 u238 u239 u240 u241 u242 u243 u244 u245 u246 u247 u248 u249 u250 u251 u252 u253 u254 u255 u256 u257 u258 u259 u260 u261 u262 u263 u264 u265 u266 u267 u268 u269 u270 u271 u272 u273 u274 u275 u276 u277 u278 u279 u280 u281 u282 u283 u284 u285 u286 u287 u288 u289 u290 u291 u292 u293 u294 u295 u296 u297 u298 u299 u300 u301 u302 u303 u304 u305 u306 u307 u308 u309 u310 u311 u312 u313 u314 u315 u316 u317 u318 u319 u320 u321 u322 u323 u324 u325 u326 u327 u328 u329 u330 u331 u332 : Value} (gf cf gh ch ga ca N T F : Nat) (All H8 : List Int) (W : World) (hF : F + 64 ≤ N) (hN : N ≤ 140737488355328 + 64) (hT : T ≤ N) (hal : All.length = N)
    (ha : ∀ j, j < N → W.cell? ⟨ga, j, none⟩ = some (.int .u8 (All.getD j 0))) (hr : ∀ j, 0 ≤ All.getD j 0 ∧ All.getD j 0 < 256) (hf : ∀ j, j < 8 → W.cell? ⟨gf, j, none⟩ = some (.int .u32 (firstsL.getD j 0)))
    (hh : VAt W gh H8) (hl : H8.length = 8) (hgl : gh < W.heap.size)
    {K : Act → World → Prop} {Q : Exit → Act → World → Prop} (hQ : ∀ c a a' w, Q (Exit.panic c) a w → a.defers = a'.defers → Q (Exit.panic c) a' w)
    (hK : ∀ (x11 x12 x13 x14 x15 x16 x17 x18 x19 x76 x77 x78 x79 x80 x81 x82 x83 x84 x85 x86 x87 x88 x89 x90 x91 x92 x93 x94 x95 x96 x97 x98 x99 x100 x101 x102 x103 x104 x105 x106 x107 x108 x109 x110 x111 x112 x113 x114 x115 x116 x117 x118 x119 x120 x121 x122 x123 x124 x125 x126 x127 x128 x129 x130 x131 x132 x133 x134 x135 x136 x137 x138 x139 x140 x141 x142 x143 x144 x145 x146 x147 x148 x149 x150 x151 x152 x153 x154 x155 x156 x157 x158 x159 x160 x161 x162 x163 x164 x165 x166 x167 x168 x169 x170 x171 x172 x173 x174 x175 x176 x177 x178 x179 x180 x181 x182 x183 x184 x185 x186 x187 x188 x189 x190 x191 x192 x193 x194 x195 x196 x197 x198 x199 x200 x201 x202 x203 x204 x205 x206 x207 x208 x209 x210 x211 x212 x213 x214 x215 x216 x217 x218 x219 x220 x221 x222 x223 x224 x225 x226 x227 x228 x229 x230 x231 x232 x233 x234 x235 x236 x237 x238 x239 x240 x241 x242 x243 x244 x245 x246 x247 x248 x249 x250 x251 x252 x253 x254 x255 x256 x257 x258 x259 x260 x261 x262 x263 x264 x265 x266 x267 x268 x269 x270 x271 x272 x273 x274 x275 x276 x277 x278 x279 x280 x281 x282 x283 x284 x285 x286 x287 x288 x289 x290 x291 x292 x293 x294 x295 x296 x297 : Value) (w' : World), VAt w' gh (compress H8 ((All.drop F).take 64) ((min (F + 64) T : Nat) : Int) (decide (N ≤ F + 64))) → Bk.KeepBut W w' gh none → K ⟨#[u0, u1, u2, u3, u4, u5, .slice (some ⟨gf, 0, none⟩) 8 cf, .slice (some ⟨gh, 0, none⟩) 8 ch, .slice (some ⟨ga, 0, none⟩) N ca, .int .i64 (T : Int), .int .i64 (F : Int), x11, x12, x13, x14, x15, x16, x17, x18, x19, u20, u21, u22, u23, u24, u25, u26, u27, u28, u29, u30, u31, u32, u33, u34, u35, u36, u37, u38, u39, u40, u41, u42, u43, u44, u45, u46, u47, u48, u49, u50, u51, u52, u53, u54, u55, u56, u57, u58, u59, u60, u61, u62, u63, u64, u65, u66, u67, u68, u69, u70, u71, u72, u73, u74, u75, x76, x77, x78, x79, x80, x81, x82, x83, x84, x85, x86, x87, x88, x89, x90, x91, x92, x93, x94, x95, x96, x97, x98, x99, x100, x101, x102, x103, x104, x105, x106, x107, x108, x109, x110, x111, x112, x113, x114, x115, x116, x117, x118, x119, x120, x121, x122, x123, x124, x125, x126, x127, x128, x129, x130, x131, x132, x133, x134, x135, x136, x137, x138, x139, x140, x141, x142, x143, x144, x145, x146, x147, x148, x149, x150, x151, x152, x153, x154, x155, x156, x157, x158, x159, x160, x161, x162, x163, x164, x165, x166, x167, x168, x169, x170, x171, x172, x173, x174, x175, x176, x177, x178, x179, x180, x181, x182, x183, x184, x185, x186, x187, x188, x189, x190, x191, x192, x193, x194, x195, x196, x197, x198, x199, x200, x201, x202, x203, x204, x205, x206, x207, x208, x209, x210, x211, x212, x213, x214, x215, x216, x217, x218, x219, x220, x221, x222, x223, x224, x225, x226, x227, x228, x229, x230, x231, x232, x233, x234, x235, x236, x237, x238, x239, x240, x241, x242, x243, x244, x245, x246, x247, x248, x249, x250, x251, x252, x253, x254, x255, x256, x257, x258, x259, x260, x261, x262, x263, x264, x265, x266, x267, x268, x269, x270, x271, x272, x273, x274, x275, x276, x277, x278, x279, x280, x281, x282, x283, x284, x285, x286, x287, x288, x289, x290, x291, x292, x293, x294, x295, x296, x297, u298, u299, u300, u301, u302, u303, u304, u305, u306, u307, u308, u309, u310, u311, u312, u313, u314, u315, u316, u317, u318, u319, u320, u321, u322, u323, u324, u325, u326, u327, u328, u329, u330, u331, u332], []⟩ w') :
    Code.wp Tryd.prog (kBlk 5) (Exit.then K Q) ⟨#[u0, u1, u2, u3, u4, u5, .slice (some ⟨gf, 0, none⟩) 8 cf, .slice (some ⟨gh, 0, none⟩) 8 ch, .slice (some ⟨ga, 0, none⟩) N ca, .int .i64 (T : Int), .int .i64 (F : Int), u11, u12, u13, u14, u15, u16, u17, u18, u19, u20, u21, u22, u23, u24, u25, u26, u27, u28, u29, u30, u31, u32, u33, u34, u35, u36, u37, u38, u39, u40, u41, u42, u43, u44, u45, u46, u47, u48, u49, u50, u51, u52, u53, u54, u55, u56, u57, u58, u59, u60, u61, u62, u63, u64, u65, u66, u67, u68, u69, u70, u71, u72, u73, u74, u75, u76, u77, u78, u79, u80, u81, u82, u83, u84, u85, u86, u87, u88, u89, u90, u91, u92, u93, u94, u95, u96, u97, u98, u99, u100, u101, u102, u103, u104, u105, u106, u107, u108, u109, u110, u111, u112, u113, u114, u115, u116, u117, u118, u119, u120, u121, u122, u123, u124, u125, u126, u127, u128, u129, u130, u131, u132, u133, u134, u135, u136, u137, u138, u139, u140, u141, u142, u143, u144, u145, u146, u147, u148, u149, u150, u151, u152, u153, u154, u155, u156, u157, u158, u159, u160, u161, u162, u163, u164, u165, u166, u167, u168, u169, u170, u171, u172, u173, u174, u175, u176, u177, u178, u179, u180, u181, u182, u183, u184, u185, u186, u187, u188, u189, u190, u191, u192, u193, u194, u195, u196, u197, u198, u199, u200, u201, u202, u203, u204, u205, u206, u207, u208, u209, u210, u211, u212, u213, u214, u215, u216, u217, u218, u219, u220, u221, u222, u223, u224, u225, u226, u227, u228, u229, u230, u231, u232, u233, u234, u235, u236, u237, u238, u239, u240, u241, u242, u243, u244, u245, u246, u247, u248, u249, u250, u251, u252, u253, u254, u255, u256, u257, u258, u259, u260, u261, u262, u263, u264, u265, u266, u267, u268, u269, u270, u271, u272, u273, u274, u275, u276, u277, u278, u279, u280, u281, u282, u283, u284, u285, u286, u287, u288, u289, u290, u291, u292, u293, u294, u295, u296, u297, u298, u299, u300, u301, u302, u303, u304, u305, u306, u307, u308, u309, u310, u311, u312, u313, u314, u315, u316, u317, u318, u319, u320, u321, u322, u323, u324, u325, u326, u327, u328, u329, u330, u331, u332], []⟩ W := by
  have HK := Aside0.mk hK
  have HQ := Aside0.mk hQ
  have HA := Aside0.mk ha
  have HRG := Aside0.mk hr
  have HFF := Aside0.mk hf
  have HH := Aside0.mk hh
  have HL := Aside0.mk hl
  have HAL := Aside0.mk hal
  have HGL := Aside0.mk hgl
  clear hK hQ ha hr hf hh hl hal hgl
  conv => arg 2; whnf
  go_upto_block 6 with fail
  obtain ⟨n, hn⟩ : ∃ n : Int, n = (if (T : Int) < (F : Int) + 64 then (T : Int) else (F : Int) + 64) := ⟨_, rfl⟩
  rw [← hn]
  have hmin : n = ((min (F + 64) T : Nat) : Int) := by rw [hn]; split <;> omega
  have hn0 : 0 ≤ n := by omega
  have hn1 : n ≤ 140737488355328 + 64 := by omega
  have HMIN := Aside0.mk hmin
  clear hn hmin
  obtain ⟨last, hlast⟩ : ∃ b, b = decide ((N : Int) ≤ (F : Int) + 64) := ⟨_, rfl⟩
  rw [← hlast]
  have HLAST := Aside0.mk hlast
  clear hlast
  refine m_words ga N ca F All W hF hN HAL.out HA.out HRG.out (fun c a a' w h e => HQ.out c a a' w h e) ?_
  intro y14 y87 y88 y89 y90 y91 y92 y93 y94 y95 y96 y97 y98 y99 y100 y101 y102 y103 y104 y105 y106 y107 y108 y109 y110 y111 y112 y113 y114 y115 y116 y117 y118 y119 y120 y121 y122 y123 y124 gm cm w1 hgm hgm2 hM hB1
  have HM := Aside0.mk (And.intro hgm (And.intro hgm2 (And.intro hM hB1)))
  have H1 := Aside0.mk (show (∀ j, j < 8 → w1.cell? ⟨gh, j, none⟩ = some (.int .u32 (H8.getD j 0))) ∧ (∀ j, j < 8 → w1.cell? ⟨gf, j, none⟩ = some (.int .u32 (firstsL.getD j 0))) from ⟨fun j hj => pw_cell_below hB1 (HH.out.cell j (by rw [HL.out]; exact hj)), fun j hj => pw_cell_below hB1 (HFF.out j hj)⟩)
  clear hgm hgm2 hM hB1
  go_upto_if 148 with (first | ((with_reducible refine gate_builtin (b := .append) (xs := #[.tmp 125, .tmp 126]) rfl ?_); (try (refine gate_guard (by rfl) ?_; dsimp only)); at_builtin; refine app_row 71 4 infoU32 (by decide) _ rfl (.tmp 125) (.tmp 126) 69 69 rfl Tryd.underlying69 rfl (BAt.nil .u32 w1 w1.heap.size _ _ (Nat.le_refl _) _ ((Below.refl _ _).alloc (Nat.le_refl _) _) rfl) (by simp) _ 8 H8 rfl (src_cells .u32 69 71 Tryd.underlying69 gh 8 ch H8 HL.out _ (fun j hj => pw_cell_below ((Below.refl _ _).alloc (Nat.le_refl _) _) (H1.out.1 j hj))) (by decide) ?_; intro v2 w2 hU; have HU := Aside0.mk hU; obtain ⟨a2, c2, e2⟩ := hU.shape; subst e2; clear hU) | ((with_reducible refine gate_builtin (b := .append) (xs := #[.tmp 127, .tmp 128]) rfl ?_); (try (refine gate_guard (by rfl) ?_; dsimp only)); at_builtin; refine app_row 71 4 infoU32 (by decide) _ rfl (.tmp 127) (.tmp 128) 69 69 rfl Tryd.underlying69 rfl HU.out HU.out.below.size _ 8 firstsL rfl (src_cells .u32 69 71 Tryd.underlying69 gf 8 cf firstsL rfl _ (fun j hj => pw_cell_below HU.out.below (H1.out.2 j hj))) (by rw [List.nil_append, HL.out]; decide) ?_; intro v3 w3 hU3; obtain ⟨gv, cv, ev, hgv, hcv, hvc, hvf⟩ := hU3.ex; subst ev; (have hl3 : ([] ++ H8 ++ firstsL).length = 16 := by (rw [List.nil_append, List.length_append, HL.out]; rfl)); rw [hl3] at hvc hcv ⊢; rw [List.nil_append] at hvc; have HV := Aside0.mk (show VAt w3 gv (H8 ++ firstsL) from ⟨fun j hj => hvc j (by (rw [List.nil_append] at hl3; omega)), fun j hj => (hvf j (by (rw [List.nil_append] at hl3; omega))).2⟩); have c12 := hvc 12 (by decide); have HB3 := Aside0.mk (And.intro hU3.below (And.intro hgv (show gv < w3.heap.size from World.block_lt_of_cell? _ _ c12))); have c13 := hvc 13 (by decide); obtain ⟨a12, h12⟩ : ∃ a, a = (H8 ++ firstsL).getD 12 0 := ⟨_, rfl⟩; obtain ⟨a13, h13⟩ : ∃ a, a = (H8 ++ firstsL).getD 13 0 := ⟨_, rfl⟩; rw [← h12] at c12; rw [← h13] at c13; have H1213 := Aside0.mk (And.intro h12 h13); clear h12 h13; have f12 := (hvf 12 (by omega)).2; have f13 := (hvf 13 (by omega)).2; clear hU3 HU hgv hcv hvc hvf hl3))
  have hL2 : ∃ L, L = ((H8 ++ firstsL).set 12 (Go.bits .xor .u32 a12 (n % 4294967296))).set 13 (Go.bits .xor .u32 a13 (n / 4294967296)) := ⟨_, rfl⟩
  obtain ⟨L2, hL2⟩ := hL2
  have hlen0 : (H8 ++ firstsL).length = 16 := by rw [List.length_append, HL.out]; rfl
  have hV2 := (HV.out.put 12 (by rw [hlen0]; decide) (Go.bits .xor .u32 a12 (n % 4294967296))).put 13 (by rw [List.length_set, hlen0]; decide) (Go.bits .xor .u32 a13 (n / 4294967296))
  rw [← hL2] at hV2
  have hlen2 : L2.length = 16 := by rw [hL2, List.length_set, List.length_set, hlen0]
  have hk2 := ((Bk.KeepBut.refl w3 gv none).set_ 12 (.int .u32 (Go.bits .xor .u32 a12 (n % 4294967296)))).set_ 13 (.int .u32 (Go.bits .xor .u32 a13 (n / 4294967296)))
  have HV2 := Aside0.mk (And.intro hV2 hk2)
  have HL2 := Aside0.mk (And.intro hL2 hlen2)
  clear c12 c13 f12 f13 hL2 hV2 hk2 hlen2 HV
  generalize (w3.setCell ⟨gv, 12, none⟩ (.int .u32 (Go.bits .xor .u32 a12 (n % 4294967296)))).setCell ⟨gv, 13, none⟩ (.int .u32 (Go.bits .xor .u32 a13 (n / 4294967296))) = w4 at *
  have HLEN0 := Aside0.mk hlen0
  clear hlen0
  go_cut [] from 149 to 154 (fun wx => Aside0 (VAt wx gv (veeL H8 n last) ∧ Bk.KeepBut w3 wx gv none))
  case first =>
    have hve : veeL H8 n last = if last then L2.set 14 (Go.bits .xor .u32 4294967295 (L2.getD 14 0)) else L2 := by
      have e : n / 4294967296 % 4294967296 = n / 4294967296 := by omega
      unfold Bk.veeL
      dsimp only
      have g13 : ((H8 ++ firstsL).set 12 (Go.bits .xor .u32 a12 (n % 4294967296))).getD 13 0 = a13 := by
        rw [H1213.out.2]
        simp [List.getD_eq_getElem?_getD, List.getElem?_set]
      rw [← H1213.out.1, g13, e, ← HL2.out.1]
      rfl
    have HVE := Aside0.mk hve
    clear hve
    cases last with
    | true =>
      have c14 := HV2.out.1.cell 14 (by rw [HL2.out.2]; decide)
      have f14 := HV2.out.1.free 14 (by rw [HL2.out.2]; decide)
      obtain ⟨a14, h14⟩ : ∃ a, a = L2.getD 14 0 := ⟨_, rfl⟩
      rw [← h14] at c14
      have H14 := Aside0.mk h14
      clear h14
      go_wp2_with fail
      go_meet
      refine Aside0.mk ⟨?_, ?_⟩
      · rw [HVE.out, if_pos rfl, ← H14.out, show Go.bits .xor .u32 4294967295 a14 = Go.bits .xor .u32 a14 4294967295 by simp only [Go.bits, BitVec.xor_comm]]
        exact HV2.out.1.put 14 (by rw [HL2.out.2]; decide) _
      · exact HV2.out.2.set_ _ _
    | false =>
      go_wp2_with fail
      go_meet
      refine Aside0.mk ⟨?_, HV2.out.2⟩
      rw [HVE.out]
      exact HV2.out.1
  case rest =>
    have HV4 := hcut
    clear hcut HV2 HL2
    go_wp2_with fail
    refine (hamperref05_places.calls placesB _ places_f).mono ?_
    rintro e w5 ⟨vl, rfl, hR, hB5⟩
    obtain ⟨gl, cl, rfl, hgl1, hgl2, _⟩ := Kd.R_form hR (by rw [places_len]; decide)
    have hpc : ∀ j, j < 10 → w5.cell? ⟨gl, j, none⟩ = some (.string (placesB.getD j ⟨#[]⟩)) := by
      intro j hj
      have h := (Kd.R_celln (⟨#[]⟩ : ByteArray) hR (j : Int) (by omega) (by rw [places_len]; exact_mod_cast hj)).1
      rw [Int.toNat_natCast] at h
      refine h.trans ?_
      simp [rdOf, Int.toNat_natCast]
    rw [places_len]
    dsimp only
    have hvl : (veeL H8 n last).length = 16 := by
      unfold Bk.veeL
      cases last <;> simp [HL.out, show firstsL.length = 8 from rfl]
    have hgW := HGL.out
    obtain ⟨hgm, hgm2, hM, hB1⟩ := HM.out
    obtain ⟨hB3, hgv, hgv3⟩ := HB3.out
    obtain ⟨hv4, hk4⟩ := HV4.out
    have s1 := hB1.size
    have s3 := hB3.size
    have s4 := hk4.size
    have s5 := hB5.size
    have hv5 := hv4.below (by omega) hB5
    have hm5 : ∀ j, j < 16 → w5.cell? ⟨gm, j, none⟩ = some (.int .u32 ((wordsL ((All.drop F).take 64)).getD j 0)) := fun j hj => pw_cell_below hB5 (Bk.keep_cell hk4 (pw_cell_below hB3 (hM j hj)) (by show gm ≠ gv; omega))
    have hh5 : VAt w5 gh H8 := (((HH.out.below hgW hB1).below (by omega) hB3).keep (by omega) hk4 (by omega)).below (by omega) hB5
    have k5 : Bk.KeepBut W w5 gh none := (Bk.keep_beside ((Bk.KeepBut.of_below hB1 gh none).trans (Bk.KeepBut.of_below hB3 gh none)) hk4 (by omega)).trans (Bk.KeepBut.of_below hB5 gh none)
    have HX := Aside0.mk (And.intro hpc (And.intro hvl (And.intro hv5 (And.intro hm5 (And.intro hh5 k5)))))
    have HN := Aside0.mk (show gm ≠ gv ∧ gl ≠ gv ∧ gv ≠ gh ∧ gh < w5.heap.size ∧ W.heap.size ≤ gv from ⟨by omega, by omega, by omega, by omega, by omega⟩)
    clear hR hpc hvl hgW hgm hgm2 hM hB1 hB3 hgv hv4 hk4 s1 s3 s4 s5 hgv3 hv5 hm5 hh5 k5 hgl1 hgl2 hB5
    go_upto_block 8 with fail
    refine m_rounds gv cv gm cm gl cl (veeL H8 n last) (wordsL ((All.drop F).take 64)) _ HX.out.2.2.2.1 HX.out.1 HN.out.1 HN.out.2.1 HX.out.2.1 HX.out.2.2.1 (fun c a a' w h e => HQ.out c a a' w h e) ?_
    intro z17 z18 z156 z157 z158 z159 z160 z161 z162 z163 z164 z165 z166 z167 z168 z169 z170 z171 z172 z173 z174 z175 z176 z177 z178 z179 z180 z181 z182 z183 z184 z185 z186 z187 z188 z189 z190 z191 z192 z193 z194 z195 z196 z197 z198 z199 z200 z201 z202 z203 z204 z205 z206 z207 z208 z209 z210 z211 z212 z213 z214 z215 z216 z217 z218 z219 z220 z221 z222 z223 z224 z225 z226 z227 z228 z229 z230 z231 z232 z233 z234 z235 z236 z237 z238 z239 z240 z241 z242 z243 z244 z245 z246 z247 z248 z249 z250 z251 z252 z253 z254 z255 z256 z257 z258 z259 z260 z261 z262 z263 z264 z265 z266 z267 z268 z269 z270 z271 z272 z273 z274 z275 w6 hv6 hk6
    have HY := Aside0.mk (And.intro hv6 hk6)
    clear hv6 hk6
    go_upto_block 10 with fail
    refine m_fin gh ch gv cv H8 (Bk.outer (wordsL ((All.drop F).take 64)) (veeL H8 n last) 10) _ HN.out.2.2.1 HL.out (HX.out.2.2.2.2.1.keep HN.out.2.2.2.1 HY.out.2 (fun e => HN.out.2.2.1 e.symm)) (fun j hj => HY.out.1.cell j (by rw [Bk.outer_len, HX.out.2.1]; exact hj)) (fun c a a' w h e => HQ.out c a a' w h e) ?_
    intro t19 t276 t277 t278 t279 t280 t281 t282 t283 t284 t285 t286 t287 t288 t289 t290 t291 t292 t293 t294 t295 t296 t297 w7 hv7 hk7
    refine HK.out _ _ _ _ _ _ _ _ _ _ _ _ _ _ _ _ _ _ _ _ _ _ _ _ _ _ _ _ _ _ _ _ _ _ _ _ _ _ _ _ _ _ _ _ _ _ _ _ _ _ _ _ _ _ _ _ _ _ _ _ _ _ _ _ _ _ _ _ _ _ _ _ _ _ _ _ _ _ _ _ _ _ _ _ _ _ _ _ _ _ _ _ _ _ _ _ _ _ _ _ _ _ _ _ _ _ _ _ _ _ _ _ _ _ _ _ _ _ _ _ _ _ _ _ _ _ _ _ _ _ _ _ _ _ _ _ _ _ _ _ _ _ _ _ _ _ _ _ _ _ _ _ _ _ _ _ _ _ _ _ _ _ _ _ _ _ _ _ _ _ _ _ _ _ _ _ _ _ _ _ _ _ _ _ _ _ _ _ _ _ _ _ _ _ _ _ _ _ _ _ _ _ _ _ _ _ _ _ _ _ _ _ _ _ _ _ _ _ _ _ _ _ _ _ _ _ _ _ _ _ _ w7 ?_ ?_
    · rw [← HMIN.out, show decide (N ≤ F + 64) = last by rw [HLAST.out]; exact decide_eq_decide.mpr (by omega)]
      exact hv7
    · exact (Bk.keep_beside HX.out.2.2.2.2.2 HY.out.2 HN.out.2.2.2.2).trans hk7
end Go.Proofs.YtbeibmdccjgcmaaDoor.Rf5
namespace Go.Proofs.YtbeibmdccjgcmaaDoor.Rf5
open Go.RowKit Go.Proofs.YtbeibmdccjgcmaaDoorW.PrintWords Go.Proofs.YtbeibmdccjgcmaaDoorW.PrintLast Go.Proofs.YtbeibmdccjgcmaaDoorW.PrintMore Go.Proofs.YtbeibmdccjgcmaaDoor.PRef
open Go.Proofs.YtbeibmdccjgcmaaDoor.Bk (firstsL initL keyL strL digest blakeKeyed compress wordsL veeL outer inner outL outB)
set_option linter.unusedVariables false
set_option linter.unusedSimpArgs false
attribute [local go_sem] max2_int min2_int max_two min_two max_three min_three max_four min_four
theorem firsts_len : firstsL.length = 8 := rfl
/-- How many bytes a text is padded by. -/
def padN (T : Nat) : Nat := if T = 0 then 64 else (64 - T % 64) % 64
theorem pad_go {T z : Nat} (h : z < padN T) : T + z = 0 ∨ (T + z) % 64 ≠ 0 := by
  unfold padN at h
  split at h <;> omega
theorem pad_end {T z : Nat} (hz : z ≤ padN T) (h : ¬ z < padN T) : z = padN T ∧ 0 < T + z ∧ (T + z) % 64 = 0 := by
  unfold padN at h hz ⊢
  split at h <;> rename_i q
  · rw [if_pos q] at hz ⊢; omega
  · rw [if_neg q] at hz ⊢; omega
/-- What the walk bears: h's numbers, the first numbers, all else. -/
structure K0 (w W : World) (gh : Nat) (hs : List Int) (gf : Nat) : Prop where
  v : VAt W gh hs
  f : ∀ j, j < 8 → W.cell? ⟨gf, j, none⟩ = some (.int .u32 (firstsL.getD j 0))
  fb : gf < gh
  gw : w.heap.size ≤ gh
  gl : gh < W.heap.size
  below : Below w.heap.size w W
theorem init_len (f0 : Int) (k : Nat) (hk : k ≤ 32) (hf : f0 = firstsL.getD 0 0) : firstsL.set 0 (Go.bits .xor .u32 (Go.bits .xor .u32 f0 16842784) (256 * (k : Int))) = initL k := by
  unfold Bk.initL
  rw [xor_assoc, ← hf, show 256 * (k : Int) = (k : Int) % 4294967296 * 256 % 4294967296 by omega]
theorem all_range {key s : ByteArray} {LL All : List Int} {m z : Nat} (hA : All = LL ++ List.replicate z (0 : Int)) (hL : LL = bytesOf key ++ List.replicate m (0 : Int) ++ bytesOf s) (j : Nat) : 0 ≤ All.getD j 0 ∧ All.getD j 0 < 256 := by
  have hb : ∀ s : ByteArray, ∀ x ∈ bytesOf s, 0 ≤ x ∧ x < 256 := fun s x hx => by
    obtain ⟨b, _, rfl⟩ := List.mem_map.1 hx
    have := b.toNat_lt
    omega
  by_cases h : j < All.length
  · have hm : All.getD j 0 ∈ All := by rw [List.getD_eq_getElem?_getD, List.getElem?_eq_getElem h]; exact List.getElem_mem _
    have hall : ∀ x ∈ All, 0 ≤ x ∧ x < 256 := fun x hx => by
      rw [hA, hL] at hx
      rcases List.mem_append.1 hx with hx | hx
      · rcases List.mem_append.1 hx with hx | hx
        · rcases List.mem_append.1 hx with hx | hx
          · exact hb _ x hx
          · have := List.eq_of_mem_replicate hx; omega
        · exact hb _ x hx
      · have := List.eq_of_mem_replicate hx; omega
    exact hall _ hm
  · rw [List.getD_eq_getElem?_getD, List.getElem?_eq_none (by omega)]
    decide
theorem xor_range (a b : Int) : 0 ≤ Go.bits .xor .u32 a b ∧ Go.bits .xor .u32 a b < 4294967296 := by
  rw [xor_bv]
  have := (BitVec.ofInt 32 a ^^^ BitVec.ofInt 32 b).isLt
  omega
theorem fin_range (H V : List Int) (j : Nat) : 0 ≤ (Bk.finL H V).getD j 0 ∧ (Bk.finL H V).getD j 0 < 4294967296 := by
  by_cases h : j < 8
  · rw [fin_get H V j h]
    exact xor_range _ _
  · rw [List.getD_eq_getElem?_getD, List.getElem?_eq_none (by rw [Bk.finL_len]; omega)]
    decide
theorem refB_range : ∀ (k : Nat) (hs rest : List Int) (T F : Nat), (∀ j, 0 ≤ hs.getD j 0 ∧ hs.getD j 0 < 4294967296) → ∀ j, 0 ≤ (refB k hs rest T F).getD j 0 ∧ (refB k hs rest T F).getD j 0 < 4294967296 := by
  intro k
  induction k with
  | zero => intro hs rest T F h; exact h
  | succ k ih =>
    intro hs rest T F h
    rw [refB]
    split
    · exact h
    · exact ih _ _ _ _ (fun j => fin_range _ _ j)
theorem firsts_range : ∀ j : Fin 8, 0 ≤ firstsL.getD j.val 0 ∧ firstsL.getD j.val 0 < 4294967296 := by decide +kernel
theorem init_range (k : Nat) (j : Nat) : 0 ≤ (initL k).getD j 0 ∧ (initL k).getD j 0 < 4294967296 := by
  unfold Bk.initL
  rw [List.getD_eq_getElem?_getD, List.getElem?_set]
  split
  · split
    · exact xor_range _ _
    · decide
  · by_cases h : j < 8
    · have := firsts_range ⟨j, h⟩
      rwa [List.getD_eq_getElem?_getD] at this
    · rw [List.getElem?_eq_none (by rw [firsts_len]; omega)]
      decide
/-- What the walk bears when the text is padded. -/
structure K1 (w W : World) (gh : Nat) (hs : List Int) (gf ga : Nat) (all : List Int) : Prop where
  v : VAt W gh hs
  f : ∀ j, j < 8 → W.cell? ⟨gf, j, none⟩ = some (.int .u32 (firstsL.getD j 0))
  a : ∀ j, j < all.length → W.cell? ⟨ga, j, none⟩ = some (.int .u8 (all.getD j 0))
  fh : gf ≠ gh
  ah : ga ≠ gh
  gw : w.heap.size ≤ gh
  gl : gh < W.heap.size
  below : Below w.heap.size w W
theorem K1.of_ {w W0 W : World} {gh : Nat} {hs : List Int} {gf ga : Nat} {all : List Int} (h : K0 w W0 gh hs gf) (hb : Below W0.heap.size W0 W) (hga : W0.heap.size ≤ ga) (ha : ∀ j, j < all.length → W.cell? ⟨ga, j, none⟩ = some (.int .u8 (all.getD j 0))) : K1 w W gh hs gf ga all := by
  have h1 := h.gl
  have h2 := h.fb
  have h3 := h.gw
  refine ⟨⟨fun i hi => ?_, fun i hi => ?_⟩, fun j hj => ?_, ha, by omega, by omega, h3, Nat.lt_of_lt_of_le h1 hb.size, h.below.trans (hb.mono (by omega))⟩
  · exact (World.cell?_of_block (a := ⟨gh, i, none⟩) (hb.block gh h1)).trans (h.v.cell i hi)
  · exact (World.frozen?_of_block (a := ⟨gh, i, none⟩) (hb.block gh h1)).trans (h.v.free i hi)
  · exact (World.cell?_of_block (a := ⟨gf, j, none⟩) (hb.block gf (by omega))).trans (h.f j hj)
set_option maxHeartbeats 8000000 in
set_option maxRecDepth 100000 in
theorem keyed_walk (key s : ByteArray) (h : key.size ≤ 32) (hs : s.size ≤ 140737488351232) (w : World) :
    Calls Tryd.prog 33 #[.string key, .string s] w fun e w' => e = .returned (.tuple #[.string (blakeKeyed key s), .int .i64 0]) ∧ Below w.heap.size w w' := by
  have d0 : decide ((32 : Int) < (key.size : Int)) = false := decide_eq_false (by omega)
  have HB := Aside0.mk (Below.refl w.heap.size w)
  go_enter Tryd.func33, Tryd.ntmps33
  go_wp2_with fail
  refine (hamperref05_First.calls 400 firstsL _ first_f).mono ?_
  rintro e w1 ⟨vf, rfl, hR, hB⟩
  obtain ⟨gf, cf, rfl, _, hgf, _⟩ := Kd.R_form hR (by decide)
  have HGF := Aside0.mk hgf
  clear hgf
  have HOf := Aside0.mk (Kd.R_mono (Kd.R_bound hR) (ok' := fun k => k < w1.heap.size) (fun _ hk => hk.2.2.1))
  replace HB := Aside0.mk hB
  clear hR hB
  go_upto_block 0 with (first
    | ((with_reducible refine gate_dst (N := 26) rfl ?_); (try (refine gate_guard (by rfl) ?_; dsimp only)); refine Kd.R_lit (Kd.int .u32) _ 71 ?hg (N := 26) ?hd (xs := ([] : List Int)) (inner := []) (ok := fun _ => True) (okp := fun _ => True) ?hr ?hp (fun _ hk => hk) trivial (Below.refl _ _) (Nat.le_refl _) (by simp) ?_; (case hd => rfl); (case hg => rfl); (case hr => first | (go_simp; done) | (go_simp; rfl)); (case hp => exact (Reps.none _ _)); intro v0 w2 ho hb hg_ hnew_; have HO0 := Aside0.mk ho; have HNEW := Aside0.mk hnew_; have n0_ := Aside0.mk (Kd.R_below HOf.out hb); have HB1 := Aside0.mk hb; clear HOf; have HOf := n0_; clear n0_ ho hb hg_ hnew_)
    | ((with_reducible refine gate_builtin (b := .append) (xs := #[.tmp 26, .tmp 27]) rfl ?_); (try (refine gate_guard (by rfl) ?_; dsimp only)); at_builtin; refine Kd.R_append_rows (Kd.int .u32) (w0 := w1) w1.heap.size rfl (.tmp 26) (.tmp 27) 69 71 (.int .u32 0) 4 rfl Tryd.underlying69 infoU32 rfl (by decide) (by decide) v0 [] firstsL _ _ _ (fun _ => True) (fun _ => False) rfl rfl ?aO ?aR (fun _ _ h => h) (fun _ h => h.elim) (fun _ _ => trivial) ?aB ?aS ?aL ?_; (case aR => exact (Kd.R_reads' HOf.out).2.2); (case aB => exact HB1.out); (case aO => exact HO0.out); (case aS => exact HB1.out.size); (case aL => decide); intro v1 w3 ho hb hg hat; obtain ⟨gh, ch, eh, gbh, glh, clh, HGh⟩ := Kd.R_form ho (by decide); subst eh; (have hv : VAt w3 gh firstsL := ⟨fun i hi => by have := (Kd.R_celln (0 : Int) ho (i : Int) (by omega) (by exact_mod_cast hi)).1; rwa [Int.toNat_natCast] at this, fun i hi => by have := (Kd.R_celln (0 : Int) ho (i : Int) (by omega) (by exact_mod_cast hi)).2; rwa [Int.toNat_natCast] at this⟩); (have hc0 := hv.cell 0 (by decide)); (have hf0 := hv.free 0 (by decide)); obtain ⟨f0, hff⟩ : ∃ f, f = firstsL.getD 0 0 := ⟨_, rfl⟩; rw [← hff] at hc0; (have HFF := Aside0.mk hff); (have HV := Aside0.mk hv); (have kb := fun W => print_bytes (P := Tryd.prog) 9 40 5 Tryd.underlying9 Tryd.underlying40 Tryd.underlying5 key W); rw [show ([] ++ firstsL : List Int).length = 8 from rfl, show firstsL.length = 8 from rfl]; clear hff hv HGh clh; have n0_ := Aside0.mk (Kd.R_grown HOf.out hg (fun k hk e => by obtain ⟨b, h1, h2⟩ := HNEW.out; rw [h1] at e; injection e with e; omega)); clear HOf HB1; have HOf := n0_; have HB1 := Aside0.mk hb; clear n0_ ho hb hg hat))
  have hsz : (w3.setCell ⟨gh, 0, none⟩ (.int .u32 (Go.bits .xor .u32 (Go.bits .xor .u32 f0 16842784) (256 * (key.size : Int))))).heap.size = w3.heap.size := by simp [World.setCell]
  have hK : K0 w (w3.setCell ⟨gh, 0, none⟩ (.int .u32 (Go.bits .xor .u32 (Go.bits .xor .u32 f0 16842784) (256 * (key.size : Int))))) gh (initL key.size) gf := by
    have hlt : gf < w1.heap.size := HGF.out
    refine ⟨?_, ?_, by omega, by have := HB.out.size; omega, by omega, ?_⟩
    · rw [← init_len f0 key.size h HFF.out]
      exact HV.out.put 0 (by decide) _
    · intro j hj
      have hc := (Kd.R_celln (0 : Int) HOf.out (j : Int) (by omega) (by exact_mod_cast hj)).1
      have hne : gf ≠ gh := by omega
      rw [World.cell?_setCell_other (h := fun z => hne (by injection z with z; exact z.symm))]
      rw [Int.toNat_natCast] at hc
      refine hc.trans ?_
      simp [rdOf, Int.toNat_natCast]
    · exact Below.setCell (HB.out.trans (HB1.out.mono HB.out.size)) (by have := HB.out.size; show _ ≤ gh; omega) _
  rw [← hsz]
  generalize w3.setCell ⟨gh, 0, none⟩ (.int .u32 (Go.bits .xor .u32 (Go.bits .xor .u32 f0 16842784) (256 * (key.size : Int)))) = W0 at *
  have HA := Aside0.mk (bytes_at W0 W0.heap.size (Nat.le_refl _) key W0 (Below.refl _ _))
  have HK := Aside0.mk hK
  have HLK := Aside0.mk h
  clear hK hsz gbh glh hc0 hf0 HV HFF HOf HB HB1 HNEW HO0 kb
  generalize hcap : grownCap W0 key.size 0 5 = cap0 at *
  clear hcap
  go_cut [8] (fun v wc => ∃ m a c, v = .slice a (key.size + m) c ∧ (0 < key.size → key.size + m = 64) ∧ (key.size = 0 → m = 0) ∧ Aside0 (BAt .u8 W0 W0.heap.size wc v (bytesOf key ++ List.replicate m 0)))
  case first =>
    go_wp2_with fail
    go_loopw [8] (fun v wr => ∃ m a c, v = .slice a (key.size + m) c ∧ (0 < key.size → key.size + m ≤ 64) ∧ (key.size = 0 → m = 0) ∧ Aside0 (BAt .u8 W0 W0.heap.size wr v (bytesOf key ++ List.replicate m 0))) (fun v _ => match v with | .slice _ n _ => 64 - n | _ => 0)
    case atStart => exact ⟨0, _, _, rfl, fun _ => by omega, fun _ => rfl, Aside0.mk (by rw [List.replicate_zero, List.append_nil]; exact HA.out)⟩
    case round =>
      obtain ⟨m, a, c, rfl, hm1, hm2, HU⟩ := hrel
      by_cases hgo : 0 < key.size ∧ key.size + m < 64
      · obtain ⟨hg1, hg2⟩ := hgo
        have hg1' : ((key.size : Int) = 0) = False := eq_false (by omega)
        go_wp2_with (first | ((with_reducible refine gate_builtin (b := .append) (xs := #[.tmp 50, .tmp 51]) rfl ?_); (try (refine gate_guard (by rfl) ?_; dsimp only)); at_builtin; refine app_row 5 1 infoU8b (by decide) _ rfl (.tmp 50) (.tmp 51) 40 40 rfl Tryd.underlying40 rfl (HU.out.alloc HU.out.below.size _) (by have := HU.out.below.size; simp; omega) _ 1 [0] rfl ?hS ?hL ?_; (case hS => exact one_src _); (case hL => rw [List.length_append, bytesOf_length, List.length_replicate]; omega); intro v2 w2 hU2; have HU2 := Aside0.mk hU2; obtain ⟨a2, c2, e2⟩ := hU2.shape; subst e2; clear hU2 HU))
        case roundEnd =>
          have hl : (bytesOf key ++ List.replicate m (0 : Int) ++ [0]).length = key.size + (m + 1) := by rw [List.length_append, List.length_append, bytesOf_length, List.length_replicate]; rfl
          have hn : bytesOf key ++ List.replicate m (0 : Int) ++ [0] = bytesOf key ++ List.replicate (m + 1) 0 := by rw [List.append_assoc, List.replicate_succ']
          refine ⟨⟨m + 1, a2, c2, by rw [bytesOf_length], fun _ => by omega, fun h0 => by omega, Aside0.mk ?_⟩, by rw [bytesOf_length]; simp; omega⟩
          rw [← hn]
          rw [bytesOf_length, ← hl]
          exact HU2.out
      · by_cases hk0 : key.size = 0
        · have hk0' : ((key.size : Int) = 0) = True := eq_true (by omega)
          go_wp2_with fail
          go_meet
          exact ⟨m, a, c, rfl, fun h0 => by omega, hm2, HU⟩
        · have hg1 : 0 < key.size := by omega
          have hg1' : ((key.size : Int) = 0) = False := eq_false (by omega)
          have hm1' := hm1 hg1
          go_wp2_with fail
          go_meet
          exact ⟨m, a, c, rfl, fun h0 => by omega, hm2, HU⟩
  case rest =>
    obtain ⟨m, a, c, rfl, hm1, hm2, HU⟩ := hcut
    have HM1 := Aside0.mk hm1
    have HM2 := Aside0.mk hm2
    clear hm1 hm2
    obtain ⟨LL, hLL⟩ : ∃ LL, LL = bytesOf key ++ List.replicate m (0 : Int) ++ bytesOf s := ⟨_, rfl⟩
    have HLL := Aside0.mk hLL
    clear hLL
    go_upto_block 2 with (first | ((with_reducible refine gate_builtin (b := .append) (xs := #[.tmp 53, .tmp 54]) rfl ?_); (try (refine gate_guard (by rfl) ?_; dsimp only)); at_builtin; refine app_row 5 1 infoU8b (by decide) _ rfl (.tmp 53) (.tmp 54) 40 9 rfl Tryd.underlying40 rfl HU.out HU.out.below.size _ s.size (bytesOf s) rfl ?hS ?hL ?_; (case hS => rw [← byteCells_nums]; exact Src.ofString _ Tryd.underlying9 s); (case hL => rw [List.length_append, bytesOf_length, List.length_replicate]; by_cases h0 : key.size = 0; (have := HM2.out h0; omega); (have := HM1.out (by omega); omega)); intro v2 w2 hU2; rw [← HLL.out] at hU2; have HU2 := Aside0.mk hU2; obtain ⟨a2, c2, e2⟩ := hU2.shape; subst e2; clear hU2 HU; obtain ⟨T, hT⟩ : ∃ T, T = LL.length := ⟨_, rfl⟩; rw [← hT] at HU2 ⊢; have HT := Aside0.mk hT; clear hT))
    have hTb : T ≤ 140737488351232 + 64 := by
      rw [HT.out, HLL.out, List.length_append, List.length_append, bytesOf_length, List.length_replicate, bytesOf_length]
      by_cases h0 : key.size = 0
      · have := HM2.out h0; omega
      · have := HM1.out (by omega); omega
    have HTB := Aside0.mk hTb
    clear hTb
    go_cut [8] (fun v wc => ∃ a c N, v = .slice a N c ∧ Aside0 (N = T + padN T ∧ 0 < N ∧ N % 64 = 0) ∧ Aside0 (BAt .u8 W0 W0.heap.size wc v (LL ++ List.replicate (padN T) 0)))
    case first =>
      go_wp2_with fail
      go_loopw [8] (fun v wr => ∃ z a c N, v = .slice a N c ∧ Aside0 (N = T + z) ∧ z ≤ padN T ∧ Aside0 (BAt .u8 W0 W0.heap.size wr v (LL ++ List.replicate z 0))) (fun v _ => match v with | .slice _ n _ => T + 64 - n | _ => 0)
      case atStart => exact ⟨0, _, _, T, rfl, Aside0.mk rfl, Nat.zero_le _, Aside0.mk (by rw [List.replicate_zero, List.append_nil]; exact HU2.out)⟩
      case round =>
        obtain ⟨z, a, c, N, rfl, HN, hz, HU⟩ := hrel
        by_cases hgo : z < padN T
        · have hpad : padN T ≤ 64 := by unfold padN; split <;> omega
          have hNb : N ≤ 140737488351232 + 128 := by have := HN.out; have := HTB.out; omega
          have hstop := pad_go hgo
          rw [← HN.out] at hstop
          by_cases h0 : N = 0
          · subst h0
            clear hstop
            go_wp2_with (first | ((with_reducible refine gate_builtin (b := .append) (xs := #[.tmp 67, .tmp 68]) rfl ?_); (try (refine gate_guard (by rfl) ?_; dsimp only)); at_builtin; refine app_row 5 1 infoU8b (by decide) _ rfl (.tmp 67) (.tmp 68) 40 40 rfl Tryd.underlying40 rfl (HU.out.alloc HU.out.below.size _) (by have := HU.out.below.size; simp; omega) _ 1 [0] rfl ?hS ?hL ?_; (case hS => exact one_src _); (case hL => rw [List.length_append, List.length_replicate, ← HT.out, ← HN.out]; omega); intro v2 w2 hU2; have HU2 := Aside0.mk hU2; obtain ⟨a2, c2, e2⟩ := hU2.shape; subst e2; clear hU2 HU))
            case roundEnd =>
              have hl : (LL ++ List.replicate z (0 : Int) ++ [0]).length = LL.length + (z + 1) := by rw [List.length_append, List.length_append, List.length_replicate]; rfl
              have hn : LL ++ List.replicate z (0 : Int) ++ [0] = LL ++ List.replicate (z + 1) 0 := by rw [List.append_assoc, List.replicate_succ']
              refine ⟨⟨z + 1, a2, c2, LL.length + (z + 1), rfl, Aside0.mk (by rw [← HT.out]), hgo, Aside0.mk ?_⟩, ?_⟩
              · have := HU2.out
                rw [hl] at this
                rw [← hn]
                exact this
              · have := HT.out
                have := HN.out
                simp
                omega
          · have h3 : (N = 0) = False := eq_false (by omega)
            have h1 : ((N : Int) == 0) = false := beq_eq_false_iff_ne.mpr (by omega)
            have h2 : ((N : Int) % 64 != 0) = true := bne_iff_ne.mpr (by omega)
            clear hstop h0
            go_wp2_with (first | ((with_reducible refine gate_builtin (b := .append) (xs := #[.tmp 67, .tmp 68]) rfl ?_); (try (refine gate_guard (by rfl) ?_; dsimp only)); at_builtin; refine app_row 5 1 infoU8b (by decide) _ rfl (.tmp 67) (.tmp 68) 40 40 rfl Tryd.underlying40 rfl (HU.out.alloc HU.out.below.size _) (by have := HU.out.below.size; simp; omega) _ 1 [0] rfl ?hS ?hL ?_; (case hS => exact one_src _); (case hL => rw [List.length_append, List.length_replicate, ← HT.out, ← HN.out]; omega); intro v2 w2 hU2; have HU2 := Aside0.mk hU2; obtain ⟨a2, c2, e2⟩ := hU2.shape; subst e2; clear hU2 HU))
            case roundEnd =>
              have hl : (LL ++ List.replicate z (0 : Int) ++ [0]).length = LL.length + (z + 1) := by rw [List.length_append, List.length_append, List.length_replicate]; rfl
              have hn : LL ++ List.replicate z (0 : Int) ++ [0] = LL ++ List.replicate (z + 1) 0 := by rw [List.append_assoc, List.replicate_succ']
              refine ⟨⟨z + 1, a2, c2, LL.length + (z + 1), rfl, Aside0.mk (by rw [← HT.out]), hgo, Aside0.mk ?_⟩, ?_⟩
              · have := HU2.out
                rw [hl] at this
                rw [← hn]
                exact this
              · have := HT.out
                have := HN.out
                simp
                omega
        · obtain ⟨e1, e2, e3⟩ := pad_end hz hgo
          rw [← HN.out] at e2 e3
          have h3 : (N = 0) = False := eq_false (by omega)
          have h1 : ((N : Int) == 0) = false := beq_eq_false_iff_ne.mpr (by omega)
          have h2 : ((N : Int) % 64 != 0) = false := bne_eq_false_iff_eq.mpr (by omega)
          have E := Aside0.mk (And.intro e1 (And.intro e2 e3))
          clear e1 e2 e3
          go_wp2_with fail
          go_meet
          obtain ⟨rfl, e2, e3⟩ := E.out
          exact ⟨a, c, N, rfl, Aside0.mk ⟨HN.out, e2, e3⟩, HU⟩
    case rest =>
      obtain ⟨a, c, N, rfl, HN, HU⟩ := hcut
      obtain ⟨ga, ca, ea, hga, hca, hac, hat⟩ := HU.out.ex
      have hal : (LL ++ List.replicate (padN T) (0 : Int)).length = N := by rw [List.length_append, List.length_replicate, ← HT.out, HN.out.1]
      rw [hal] at ea hca hac
      injection ea with ea1 ea2 ea3
      subst ea1
      subst ea3
      have HK1 := Aside0.mk (show K1 w wc gh (initL key.size) gf ga (LL ++ List.replicate (padN T) 0) from K1.of_ HK.out HU.out.below hga (by rw [hal]; exact hac))
      have HAL := Aside0.mk hal
      clear HK HU hga hca hac hat hal ea2
      obtain ⟨All, hAll⟩ : ∃ A, A = LL ++ List.replicate (padN T) (0 : Int) := ⟨_, rfl⟩
      rw [← hAll] at HK1 HAL
      have HALL := Aside0.mk hAll
      clear hAll
      go_upto_block 4 with fail
      obtain ⟨G, hG⟩ : ∃ G, G = refB (N / 64 + 2) (initL key.size) All T 0 := ⟨_, rfl⟩
      have HG := Aside0.mk hG
      clear hG
      have hNb : N ≤ 140737488355328 + 64 := by have h1 := HN.out.1; have h2 := HTB.out; have h3 : padN T ≤ 64 := by unfold padN; split <;> omega
                                                omega
      go_cut [] (fun wx => Aside0 (VAt wx gh G ∧ G.length = 8 ∧ Bk.KeepBut wc wx gh none))
      case first =>
        go_wp2_with fail
        go_loopw [10] (fun i wr => ∃ (F q : Nat) (H8 : List Int), i = .int .i64 F ∧ F ≤ N ∧ Aside0 (F % 64 = 0 ∧ N ≤ F + 64 * q ∧ refB q H8 (All.drop F) T F = G) ∧ Aside0 (VAt wr gh H8 ∧ H8.length = 8 ∧ Bk.KeepBut wc wr gh none)) (fun i _ => N - (intOf i).toNat)
        case atStart => exact ⟨0, N / 64 + 2, initL key.size, rfl, Nat.zero_le _, Aside0.mk ⟨rfl, by omega, by rw [List.drop_zero]; exact HG.out.symm⟩, Aside0.mk ⟨HK1.out.v, by simp [initL, firsts_len], Bk.KeepBut.refl _ _ _⟩⟩
        case round =>
          obtain ⟨F, q, H8, rfl, hF, HF, HV⟩ := hrel
          by_cases hlt : F < N
          · have hFI : (F : Int) < (N : Int) := by omega
            obtain ⟨z1, z2, z3⟩ := HF.out
            have h64 : F + 64 ≤ N := by have := HN.out.2.2; omega
            have HF64 := Aside0.mk h64
            have HZ := Aside0.mk (And.intro z1 (And.intro z2 z3))
            clear z1 z2 z3 h64
            go_upto_block 5 with fail
            refine m_round gf cf gh ch ga c N T F All H8 wr HF64.out (by omega) (by have := HN.out.1; omega) HAL.out (fun j hj => Bk.keep_cell HV.out.2.2 (HK1.out.a j (by rw [HAL.out]; exact hj)) HK1.out.ah) (all_range HALL.out HLL.out) (fun j hj => Bk.keep_cell HV.out.2.2 (HK1.out.f j hj) HK1.out.fh) HV.out.1 HV.out.2.1 (Nat.lt_of_lt_of_le HK1.out.gl HV.out.2.2.size) (fun c a a' w h e => And.intro (e.symm.trans (And.left h)) (And.right h)) ?_
            intro x11 x12 x13 x14 x15 x16 x17 x18 x19 x76 x77 x78 x79 x80 x81 x82 x83 x84 x85 x86 x87 x88 x89 x90 x91 x92 x93 x94 x95 x96 x97 x98 x99 x100 x101 x102 x103 x104 x105 x106 x107 x108 x109 x110 x111 x112 x113 x114 x115 x116 x117 x118 x119 x120 x121 x122 x123 x124 x125 x126 x127 x128 x129 x130 x131 x132 x133 x134 x135 x136 x137 x138 x139 x140 x141 x142 x143 x144 x145 x146 x147 x148 x149 x150 x151 x152 x153 x154 x155 x156 x157 x158 x159 x160 x161 x162 x163 x164 x165 x166 x167 x168 x169 x170 x171 x172 x173 x174 x175 x176 x177 x178 x179 x180 x181 x182 x183 x184 x185 x186 x187 x188 x189 x190 x191 x192 x193 x194 x195 x196 x197 x198 x199 x200 x201 x202 x203 x204 x205 x206 x207 x208 x209 x210 x211 x212 x213 x214 x215 x216 x217 x218 x219 x220 x221 x222 x223 x224 x225 x226 x227 x228 x229 x230 x231 x232 x233 x234 x235 x236 x237 x238 x239 x240 x241 x242 x243 x244 x245 x246 x247 x248 x249 x250 x251 x252 x253 x254 x255 x256 x257 x258 x259 x260 x261 x262 x263 x264 x265 x266 x267 x268 x269 x270 x271 x272 x273 x274 x275 x276 x277 x278 x279 x280 x281 x282 x283 x284 x285 x286 x287 x288 x289 x290 x291 x292 x293 x294 x295 x296 x297 w8 hv8 hk8
            have H9 := Aside0.mk (And.intro hv8 hk8)
            clear hv8 hk8
            go_wp2_with fail
            go_roundw
            case rel =>
              obtain ⟨z1, z2, z3⟩ := HZ.out
              obtain ⟨q, rfl⟩ : ∃ q', q = q' + 1 := ⟨q - 1, by omega⟩
              have hlen : (All.drop F).length = N - F := by rw [List.length_drop, HAL.out]
              have hne : All.drop F ≠ [] := fun e => by rw [e] at hlen; simp at hlen; omega
              rw [refB, if_neg hne, List.drop_drop, hlen, show decide (N - F ≤ 64) = decide (N ≤ F + 64) from decide_eq_decide.mpr (by omega)] at z3
              exact ⟨F + 64, q, _, rfl, HF64.out, Aside0.mk ⟨by omega, by omega, z3⟩, Aside0.mk ⟨H9.out.1, Bk.finL_len _ _, HV.out.2.2.trans H9.out.2⟩⟩
            case measure => simp [intOf]; omega
          · obtain rfl : F = N := by omega
            go_wp2_with fail
            go_meet
            have e : refB q H8 (All.drop F) T F = H8 := by
              rw [List.drop_eq_nil_of_le (by rw [HAL.out]; exact Nat.le_refl _)]
              cases q <;> simp [refB]
            obtain rfl : H8 = G := by rw [← HF.out.2.2, e]
            exact HV
      case rest =>
        obtain ⟨hv, hl8, hk9⟩ := hcut.out
        have HE := Aside0.mk (And.intro hv (And.intro hl8 hk9))
        have HB9 := Aside0.mk (hk9.below (B := w.heap.size) (HK1.out.below.size) (HK1.out.gw))
        have HGR := Aside0.mk (show ∀ j, 0 ≤ G.getD j 0 ∧ G.getD j 0 < 4294967296 from by rw [HG.out]; exact refB_range _ _ _ _ _ (init_range _))
        clear hv hl8 hk9 hcut
        go_upto_block 12 with fail
        refine m_out gh ch G _ HE.out.2.1 (fun j hj => HE.out.1.cell j (by rw [HE.out.2.1]; exact hj)) (fun j _ => HGR.out j) (fun c a a' w h e => And.intro (e.symm.trans (And.left h)) (And.right h)) ?_
        intro y21 y298 y299 y300 y301 y302 y303 y304 y305 y306 y307 y308 y309 y310 y311 y312 y313 y314 y315 y316 y317 y318 y319 y320 y321 y322 y323 y324 y325 y326 y327 y328 y329 y330 go co w10 hc hb
        have hcv := string_of_reads (P := Tryd.prog) Tryd.underlying40 Tryd.underlying5 Tryd.underlying9 (c := co) (show ReadsInt w10 .u8 (some ⟨go, 0, none⟩) 32 (Bk.outL G) from ⟨by rw [Bk.outL_len, HE.out.2.1], by decide, fun _ => ⟨_, rfl, fun j hj => by rw [add_plain]; exact hc j hj⟩⟩)
        have HB10 := Aside0.mk hb
        clear hc hb
        go_wp2_with fail
        go_ret2
        refine ⟨?_, ?_⟩
        · have hb : Bk.keyL key ++ Bk.strL s = LL := by
            rw [HLL.out]
            unfold Bk.keyL Bk.strL bytesOf
            by_cases h0 : key.size = 0
            · rw [if_pos h0, HM2.out h0]
              have : key.data.toList = [] := List.eq_nil_of_length_eq_zero (by rw [data_length]; exact h0)
              rw [this]
              simp
            · rw [if_neg h0, show 64 - key.size = m by have := HM1.out (by omega); omega]
          have hd := ref_digest (initL key.size) LL (padN T) (N / 64) (by rw [← HT.out, ← HN.out.1]; exact HN.out.2.2) (by rw [← HT.out, ← HN.out.1]; exact HN.out.2.1) (by rw [← HT.out]; unfold padN; split <;> omega) (by rw [← HT.out]; have := HN.out.1; have := HN.out.2.2; omega) (by rw [← HT.out]; have := HTB.out; omega)
          rw [← HALL.out, ← HT.out, ← HG.out] at hd
          unfold Bk.blakeKeyed
          rw [hb, hd]
          rfl
        · exact (HK1.out.below.trans HB9.out).trans (HB10.out.mono (Nat.le_trans HK1.out.below.size HB9.out.size))

end Go.Proofs.YtbeibmdccjgcmaaDoor.Rf5
namespace Go.Proofs.YtbeibmdccjgcmaaDoor.Rf5
open Go.RowKit Go.Proofs.YtbeibmdccjgcmaaDoorW.PrintWords Go.Proofs.YtbeibmdccjgcmaaDoorW.PrintLast Go.Proofs.YtbeibmdccjgcmaaDoorW.PrintMore
open Go.Proofs.YtbeibmdccjgcmaaDoor.Bk (blakeKeyed blakeSum)
set_option linter.unusedVariables false
set_option linter.unusedSimpArgs false
set_option maxHeartbeats 2000000 in
set_option maxRecDepth 100000 in
theorem ref_sum (s : ByteArray) (hs : s.size ≤ 140737488351232) (w : World) :
    Calls Tryd.prog 16 #[.string s] w fun e w' => e = .returned (.string (blakeSum s)) ∧ Below w.heap.size w w' := by
  go_enter Tryd.func16, Tryd.ntmps16
  go_wp2_with fail
  refine (keyed_walk ⟨#[]⟩ s (by decide) hs _).mono ?_
  rintro e w1 ⟨rfl, hB⟩
  have HB := Aside0.mk hB
  clear hB
  go_wp2_with fail
  go_ret
  exact ⟨rfl, HB.out⟩
end Go.Proofs.YtbeibmdccjgcmaaDoor.Rf5
