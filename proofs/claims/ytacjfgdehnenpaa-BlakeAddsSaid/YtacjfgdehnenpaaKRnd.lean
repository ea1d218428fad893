import Derived.Test.YtacjfgdehnenpaaProg
import Derived.Below
import Derived.Deep.Draws
import Derived.Deep.AppendLies
import Derived.Maps.AppendAt
import Derived.OwnWalk
import Derived.Laws.BytesArg
import Derived.Laws.MakeOwn
import Derived.Laws.OwnMore
import Derived.Deep.OwnRows
import Derived.Tactics
import Derived.Lib.ConvBytes
import Derived.Laws.Slices
import Derived.WalkKit
import Derived.KernelRfl
import Derived.RowKit3
import Derived.Deep.LoopGhost
import Derived.Deep.QuietTactic
import Derived.BigQuiet
import Derived.WideLaws
import Derived.Deep.DeepCutAuto
import Derived.Deep.CutBlock
import Derived.Deep.RegionHeld3
import Derived.Test.YtacjfgdehnenpaaWInvWords
import Derived.Laws.Rows
import Derived.Lib.AppendStr
import Derived.ArgAppend
import Derived.Laws.IdiomCopy
import Derived.OrdersHeld
import Derived.Laws.BitsLemmas
import Derived.RowKit
import Derived.Test.YtacjfgdehnenpaaWWords
import Derived.Test.YtacjfgdehnenpaaWLast
import Derived.Test.YtacjfgdehnenpaaWMore
import Derived.OpenShut
import Derived.Test.YtacjfgdehnenpaaBk12
import Derived.Test.YtacjfgdehnenpaaKMix
namespace Go.Proofs.Ytacjfgdehnenpaa.Rf5
open Go.RowKit Go.Proofs.YtacjfgdehnenpaaW.PrintWords Go.Proofs.YtacjfgdehnenpaaW.PrintLast Go.Proofs.YtacjfgdehnenpaaW.PrintMore Go.Proofs.Ytacjfgdehnenpaa.PBlake
open Go.Proofs.Ytacjfgdehnenpaa.Bk (firstsL initL keyL strL digest blakeKeyed compress wordsL wordAt veeL outL outB rowsL mixL finL)
set_option linter.unusedVariables false
set_option linter.unusedSimpArgs false
attribute [local go_sem] max2_int min2_int max_two min_two max_three min_three max_four min_four
open Go.Proofs.Ytacjfgdehnenpaa.Bk (inner outer)
theorem place_row (r : Nat) (hr : r < 10) : ∀ j : Fin 16, (placesB.getD r ⟨#[]⟩).size = 16 ∧ hamperref05_place.f (bt (placesB.getD r ⟨#[]⟩) j.val) = some ((rowsL.getD r []).getD j.val 0) ∧ 0 ≤ (rowsL.getD r []).getD j.val 0 ∧ (rowsL.getD r []).getD j.val 0 < 16 := fun j => place_all ⟨r, hr⟩ j
set_option maxHeartbeats 8000000 in
set_option maxRecDepth 1000000 in
theorem m_rounds {u0 u1 u2 u3 u4 u5 u6 u7 u8 u9 u10 u11 u12 u14 u18 u19 u20 u21 u22 u23 u24 u25 u26 u27 u28 u29 u30 u31 u32 u33 u34 u35 u36 u37 u38 u39 u40 u41 u42 u43 u44 u45 u46 u47 u48 u49 u50 u51 u52 u53 u54 u55 u56 u57 u58 u59 u60 u61 u62 u63 u64 u65 u66 u67 u68 u69 u70 u71 u72 u73 u74 u75 u76 u77 u78 u79 u80 u81 u82 u83 u84 u85 u86 u87 u88 u89 u90 u91 u92 u93 u94 u95 u96 u97 u98 u99 u100 u101 u102 u103 u104 u105 u106 u107 u108 u109 u110 u111 u112 u113 u114 u115 u116 u117 u118 u119 u120 u121 u122 u123 u124 u125 u126 u127 u128 u129 u130 u131 u132 u133 u134 u135 u136 u137 u138 u139 u140 u141 u142 u143 u144 u145 u146 u147 u148 u149 u150 u151 u152 u153 u154 u155 u156 u157 u158 u159 u160 u161 u162 u163 u164 u165 u166 u167 u168 u169 u170 u171 u172 u173 u174 u175 u176 u177 u178 u179 u180 u181 u182 u183 u184 u185 u186 u187 u188 u189 u190 u191 u192 u193 u194 u195 u196 u197 u198 u199 u200 u201 u202 u203 u204 u205 u206 u207 u208 u209 u210 u211 u212 u213 u214 u215 u216 u217 u218 u219 u220 u221 u222 u223 u224 u225 u226 u227 u228 u229 u230 u231 u232 u233 u234 u235 u236 u237 u238 u239 u240 u241 u242 u243 u244 u245 u246 u247 u248 u249 u250 u251 u252 u253 u254 u255 u256 u257 u258 u259 u260 u261 u262 u263 u264 u265 u266 u267 u268 u269 u270 u271 u272 u273 u274 u275 u276 u277 u278 u279 u280 u281 u282 u283 u284 u285 u286 u287 u288 u289 u290 u291 u292 u293 u294 u295 u296 u297 u298 u299 u300 u301 u302 u303 u304 u305 u306 u307 u308 u309 u310 u311 u312 u313 u314 u315 u316 u317 u318 u319 u320 u321 u322 u323 u324 u325 u326 u327 u328 u329 u330 u331 u332 : Value} (gv cv gm cm gl cl : Nat) (V Ms : List Int) (W : World) (hm : ∀ j, j < 16 → W.cell? ⟨gm, j, none⟩ = some (.int .u32 (Ms.getD j 0))) (hp : ∀ j, j < 10 → W.cell? ⟨gl, j, none⟩ = some (.string (placesB.getD j ⟨#[]⟩))) (hne : gm ≠ gv) (hne2 : gl ≠ gv) (hl : V.length = 16) (hV : VAt W gv V)
    {K : Act → World → Prop} {Q : Exit → Act → World → Prop} (hQ : ∀ c a a' w, Q (Exit.panic c) a w → a.defers = a'.defers → Q (Exit.panic c) a' w)
    (hK : ∀ (x17 x18 x156 x157 x158 x159 x160 x161 x162 x163 x164 x165 x166 x167 x168 x169 x170 x171 x172 x173 x174 x175 x176 x177 x178 x179 x180 x181 x182 x183 x184 x185 x186 x187 x188 x189 x190 x191 x192 x193 x194 x195 x196 x197 x198 x199 x200 x201 x202 x203 x204 x205 x206 x207 x208 x209 x210 x211 x212 x213 x214 x215 x216 x217 x218 x219 x220 x221 x222 x223 x224 x225 x226 x227 x228 x229 x230 x231 x232 x233 x234 x235 x236 x237 x238 x239 x240 x241 x242 x243 x244 x245 x246 x247 x248 x249 x250 x251 x252 x253 x254 x255 x256 x257 x258 x259 x260 x261 x262 x263 x264 x265 x266 x267 x268 x269 x270 x271 x272 x273 x274 x275 : Value) (w' : World), VAt w' gv (outer Ms V 10) → Bk.KeepBut W w' gv none → K ⟨#[u0, u1, u2, u3, u4, u5, u6, u7, u8, u9, u10, u11, u12, .slice (some ⟨gm, 0, none⟩) 16 cm, u14, .slice (some ⟨gv, 0, none⟩) 16 cv, .slice (some ⟨gl, 0, none⟩) 10 cl, x17, x18, u19, u20, u21, u22, u23, u24, u25, u26, u27, u28, u29, u30, u31, u32, u33, u34, u35, u36, u37, u38, u39, u40, u41, u42, u43, u44, u45, u46, u47, u48, u49, u50, u51, u52, u53, u54, u55, u56, u57, u58, u59, u60, u61, u62, u63, u64, u65, u66, u67, u68, u69, u70, u71, u72, u73, u74, u75, u76, u77, u78, u79, u80, u81, u82, u83, u84, u85, u86, u87, u88, u89, u90, u91, u92, u93, u94, u95, u96, u97, u98, u99, u100, u101, u102, u103, u104, u105, u106, u107, u108, u109, u110, u111, u112, u113, u114, u115, u116, u117, u118, u119, u120, u121, u122, u123, u124, u125, u126, u127, u128, u129, u130, u131, u132, u133, u134, u135, u136, u137, u138, u139, u140, u141, u142, u143, u144, u145, u146, u147, u148, u149, u150, u151, u152, u153, u154, u155, x156, x157, x158, x159, x160, x161, x162, x163, x164, x165, x166, x167, x168, x169, x170, x171, x172, x173, x174, x175, x176, x177, x178, x179, x180, x181, x182, x183, x184, x185, x186, x187, x188, x189, x190, x191, x192, x193, x194, x195, x196, x197, x198, x199, x200, x201, x202, x203, x204, x205, x206, x207, x208, x209, x210, x211, x212, x213, x214, x215, x216, x217, x218, x219, x220, x221, x222, x223, x224, x225, x226, x227, x228, x229, x230, x231, x232, x233, x234, x235, x236, x237, x238, x239, x240, x241, x242, x243, x244, x245, x246, x247, x248, x249, x250, x251, x252, x253, x254, x255, x256, x257, x258, x259, x260, x261, x262, x263, x264, x265, x266, x267, x268, x269, x270, x271, x272, x273, x274, x275, u276, u277, u278, u279, u280, u281, u282, u283, u284, u285, u286, u287, u288, u289, u290, u291, u292, u293, u294, u295, u296, u297, u298, u299, u300, u301, u302, u303, u304, u305, u306, u307, u308, u309, u310, u311, u312, u313, u314, u315, u316, u317, u318, u319, u320, u321, u322, u323, u324, u325, u326, u327, u328, u329, u330, u331, u332], []⟩ w') :
    Code.wp Try.prog (kBlk 8) (Exit.then K Q) ⟨#[u0, u1, u2, u3, u4, u5, u6, u7, u8, u9, u10, u11, u12, .slice (some ⟨gm, 0, none⟩) 16 cm, u14, .slice (some ⟨gv, 0, none⟩) 16 cv, .slice (some ⟨gl, 0, none⟩) 10 cl, .int .i64 0, u18, u19, u20, u21, u22, u23, u24, u25, u26, u27, u28, u29, u30, u31, u32, u33, u34, u35, u36, u37, u38, u39, u40, u41, u42, u43, u44, u45, u46, u47, u48, u49, u50, u51, u52, u53, u54, u55, u56, u57, u58, u59, u60, u61, u62, u63, u64, u65, u66, u67, u68, u69, u70, u71, u72, u73, u74, u75, u76, u77, u78, u79, u80, u81, u82, u83, u84, u85, u86, u87, u88, u89, u90, u91, u92, u93, u94, u95, u96, u97, u98, u99, u100, u101, u102, u103, u104, u105, u106, u107, u108, u109, u110, u111, u112, u113, u114, u115, u116, u117, u118, u119, u120, u121, u122, u123, u124, u125, u126, u127, u128, u129, u130, u131, u132, u133, u134, u135, u136, u137, u138, u139, u140, u141, u142, u143, u144, u145, u146, u147, u148, u149, u150, u151, u152, u153, u154, u155, u156, u157, u158, u159, u160, u161, u162, u163, u164, u165, u166, u167, u168, u169, u170, u171, u172, u173, u174, u175, u176, u177, u178, u179, u180, u181, u182, u183, u184, u185, u186, u187, u188, u189, u190, u191, u192, u193, u194, u195, u196, u197, u198, u199, u200, u201, u202, u203, u204, u205, u206, u207, u208, u209, u210, u211, u212, u213, u214, u215, u216, u217, u218, u219, u220, u221, u222, u223, u224, u225, u226, u227, u228, u229, u230, u231, u232, u233, u234, u235, u236, u237, u238, u239, u240, u241, u242, u243, u244, u245, u246, u247, u248, u249, u250, u251, u252, u253, u254, u255, u256, u257, u258, u259, u260, u261, u262, u263, u264, u265, u266, u267, u268, u269, u270, u271, u272, u273, u274, u275, u276, u277, u278, u279, u280, u281, u282, u283, u284, u285, u286, u287, u288, u289, u290, u291, u292, u293, u294, u295, u296, u297, u298, u299, u300, u301, u302, u303, u304, u305, u306, u307, u308, u309, u310, u311, u312, u313, u314, u315, u316, u317, u318, u319, u320, u321, u322, u323, u324, u325, u326, u327, u328, u329, u330, u331, u332], []⟩ W := by
  have HK := Aside0.mk hK
  have HQ := Aside0.mk hQ
  have HC := Aside0.mk hm
  have HPL := Aside0.mk hp
  have HL := Aside0.mk hl
  have HNE := Aside0.mk hne
  have HNE2 := Aside0.mk hne2
  have H0 := Aside0.mk hV
  clear hK hQ hm hp hl hne hne2 hV
  conv => arg 2; whnf
  go_wp2_with fail
  go_loopw [17] (fun iv wr => ∃ k : Nat, k ≤ 10 ∧ iv = .int .i64 (k : Int) ∧ Aside0 (VAt wr gv (outer Ms V k) ∧ Bk.KeepBut W wr gv none)) (fun iv _ => 10 - (intOf iv).toNat)
  case atStart => exact ⟨0, Nat.zero_le _, rfl, Aside0.mk ⟨H0.out, Bk.KeepBut.refl _ _ _⟩⟩
  case round =>
    obtain ⟨k, hk, rfl, HV⟩ := hrel
    by_cases hlt : k < 10
    · obtain ⟨P, hP⟩ : ∃ P, P = placesB.getD k ⟨#[]⟩ := ⟨_, rfl⟩
      have hcp : wr.cell? ⟨gl, k, none⟩ = some (.string P) := by rw [hP]; exact Bk.keep_cell HV.out.2 (HPL.out k hlt) HNE2.out
      obtain ⟨R0, hR0⟩ : ∃ R, R = rowsL.getD k [] := ⟨_, rfl⟩
      have hpl := place_row k hlt
      rw [← hP, ← hR0] at hpl
      have PL := Aside0.mk hpl
      have HP := Aside0.mk (hpl ⟨0, by decide⟩).1
      have HR0 := Aside0.mk hR0
      obtain ⟨V0, hV0⟩ : ∃ L, L = outer Ms V k := ⟨_, rfl⟩
      have HL0 := Aside0.mk (show V0.length = 16 by rw [hV0, Bk.outer_len, HL.out])
      have HVK := Aside0.mk hV0
      have HM0 := Aside0.mk (show (VAt wr gv V0 ∧ V0.length = 16) ∧ Bk.KeepBut W wr gv none from ⟨⟨by rw [hV0]; exact HV.out.1, HL0.out⟩, HV.out.2⟩)
      clear hP hR0 hpl hV0 HV
      have HV0 := Aside0.mk (show V0 = Bk.inner Ms R0 V0 0 from rfl)
      go_upto_region 33 with fail
      clear hcp
      go_upto_region 33 with fail
      refine m_mix0 gv cv gm cm P V0 Ms _ _ _ HP.out (PL.out ⟨0, by decide⟩).2.1 (PL.out ⟨1, by decide⟩).2.1 (PL.out ⟨0, by decide⟩).2.2.1 (PL.out ⟨0, by decide⟩).2.2.2 (PL.out ⟨1, by decide⟩).2.2.1 (PL.out ⟨1, by decide⟩).2.2.2 (fun j hj => Bk.keep_cell HM0.out.2 (HC.out j hj) HNE.out) HNE.out HM0.out.1.2 HM0.out.1.1 (fun c a a' w h e => HQ.out c a a' w h e) ?_
      intro y164 y165 y166 y167 y168 y169 y170 y171 y172 y173 y174 y175 y176 y177 w1 hv hk
      obtain ⟨V1, hV1⟩ : ∃ L, L = Bk.inner Ms R0 V0 1 := ⟨_, rfl⟩
      have HV1 := Aside0.mk hV1
      have HM1 := Aside0.mk (show (VAt w1 gv V1 ∧ V1.length = 16) ∧ Bk.KeepBut W w1 gv none from ⟨⟨by rw [hV1, show Bk.inner Ms R0 V0 1 = mixL (Bk.inner Ms R0 V0 0) 0 4 8 12 (Ms.getD (R0.getD 0 0).toNat 0) (Ms.getD (R0.getD 1 0).toNat 0) from rfl, ← HV0.out]; exact hv, by rw [hV1, Bk.inner_len, HL0.out]⟩, HM0.out.2.trans hk⟩)
      clear hv hk hV1
      go_upto_region 34 with fail
      refine m_mix1 gv cv gm cm P V1 Ms _ _ _ HP.out (PL.out ⟨2, by decide⟩).2.1 (PL.out ⟨3, by decide⟩).2.1 (PL.out ⟨2, by decide⟩).2.2.1 (PL.out ⟨2, by decide⟩).2.2.2 (PL.out ⟨3, by decide⟩).2.2.1 (PL.out ⟨3, by decide⟩).2.2.2 (fun j hj => Bk.keep_cell HM1.out.2 (HC.out j hj) HNE.out) HNE.out HM1.out.1.2 HM1.out.1.1 (fun c a a' w h e => HQ.out c a a' w h e) ?_
      intro y178 y179 y180 y181 y182 y183 y184 y185 y186 y187 y188 y189 y190 y191 w2 hv hk
      obtain ⟨V2, hV2⟩ : ∃ L, L = Bk.inner Ms R0 V0 2 := ⟨_, rfl⟩
      have HV2 := Aside0.mk hV2
      have HM2 := Aside0.mk (show (VAt w2 gv V2 ∧ V2.length = 16) ∧ Bk.KeepBut W w2 gv none from ⟨⟨by rw [hV2, show Bk.inner Ms R0 V0 2 = mixL (Bk.inner Ms R0 V0 1) 1 5 9 13 (Ms.getD (R0.getD 2 0).toNat 0) (Ms.getD (R0.getD 3 0).toNat 0) from rfl, ← HV1.out]; exact hv, by rw [hV2, Bk.inner_len, HL0.out]⟩, HM1.out.2.trans hk⟩)
      clear hv hk hV2
      go_upto_region 35 with fail
      refine m_mix2 gv cv gm cm P V2 Ms _ _ _ HP.out (PL.out ⟨4, by decide⟩).2.1 (PL.out ⟨5, by decide⟩).2.1 (PL.out ⟨4, by decide⟩).2.2.1 (PL.out ⟨4, by decide⟩).2.2.2 (PL.out ⟨5, by decide⟩).2.2.1 (PL.out ⟨5, by decide⟩).2.2.2 (fun j hj => Bk.keep_cell HM2.out.2 (HC.out j hj) HNE.out) HNE.out HM2.out.1.2 HM2.out.1.1 (fun c a a' w h e => HQ.out c a a' w h e) ?_
      intro y192 y193 y194 y195 y196 y197 y198 y199 y200 y201 y202 y203 y204 y205 w3 hv hk
      obtain ⟨V3, hV3⟩ : ∃ L, L = Bk.inner Ms R0 V0 3 := ⟨_, rfl⟩
      have HV3 := Aside0.mk hV3
      have HM3 := Aside0.mk (show (VAt w3 gv V3 ∧ V3.length = 16) ∧ Bk.KeepBut W w3 gv none from ⟨⟨by rw [hV3, show Bk.inner Ms R0 V0 3 = mixL (Bk.inner Ms R0 V0 2) 2 6 10 14 (Ms.getD (R0.getD 4 0).toNat 0) (Ms.getD (R0.getD 5 0).toNat 0) from rfl, ← HV2.out]; exact hv, by rw [hV3, Bk.inner_len, HL0.out]⟩, HM2.out.2.trans hk⟩)
      clear hv hk hV3
      go_upto_region 36 with fail
      refine m_mix3 gv cv gm cm P V3 Ms _ _ _ HP.out (PL.out ⟨6, by decide⟩).2.1 (PL.out ⟨7, by decide⟩).2.1 (PL.out ⟨6, by decide⟩).2.2.1 (PL.out ⟨6, by decide⟩).2.2.2 (PL.out ⟨7, by decide⟩).2.2.1 (PL.out ⟨7, by decide⟩).2.2.2 (fun j hj => Bk.keep_cell HM3.out.2 (HC.out j hj) HNE.out) HNE.out HM3.out.1.2 HM3.out.1.1 (fun c a a' w h e => HQ.out c a a' w h e) ?_
      intro y206 y207 y208 y209 y210 y211 y212 y213 y214 y215 y216 y217 y218 y219 w4 hv hk
      obtain ⟨V4, hV4⟩ : ∃ L, L = Bk.inner Ms R0 V0 4 := ⟨_, rfl⟩
      have HV4 := Aside0.mk hV4
      have HM4 := Aside0.mk (show (VAt w4 gv V4 ∧ V4.length = 16) ∧ Bk.KeepBut W w4 gv none from ⟨⟨by rw [hV4, show Bk.inner Ms R0 V0 4 = mixL (Bk.inner Ms R0 V0 3) 3 7 11 15 (Ms.getD (R0.getD 6 0).toNat 0) (Ms.getD (R0.getD 7 0).toNat 0) from rfl, ← HV3.out]; exact hv, by rw [hV4, Bk.inner_len, HL0.out]⟩, HM3.out.2.trans hk⟩)
      clear hv hk hV4
      go_upto_region 37 with fail
      refine m_mix4 gv cv gm cm P V4 Ms _ _ _ HP.out (PL.out ⟨8, by decide⟩).2.1 (PL.out ⟨9, by decide⟩).2.1 (PL.out ⟨8, by decide⟩).2.2.1 (PL.out ⟨8, by decide⟩).2.2.2 (PL.out ⟨9, by decide⟩).2.2.1 (PL.out ⟨9, by decide⟩).2.2.2 (fun j hj => Bk.keep_cell HM4.out.2 (HC.out j hj) HNE.out) HNE.out HM4.out.1.2 HM4.out.1.1 (fun c a a' w h e => HQ.out c a a' w h e) ?_
      intro y220 y221 y222 y223 y224 y225 y226 y227 y228 y229 y230 y231 y232 y233 w5 hv hk
      obtain ⟨V5, hV5⟩ : ∃ L, L = Bk.inner Ms R0 V0 5 := ⟨_, rfl⟩
      have HV5 := Aside0.mk hV5
      have HM5 := Aside0.mk (show (VAt w5 gv V5 ∧ V5.length = 16) ∧ Bk.KeepBut W w5 gv none from ⟨⟨by rw [hV5, show Bk.inner Ms R0 V0 5 = mixL (Bk.inner Ms R0 V0 4) 0 5 10 15 (Ms.getD (R0.getD 8 0).toNat 0) (Ms.getD (R0.getD 9 0).toNat 0) from rfl, ← HV4.out]; exact hv, by rw [hV5, Bk.inner_len, HL0.out]⟩, HM4.out.2.trans hk⟩)
      clear hv hk hV5
      go_upto_region 38 with fail
      refine m_mix5 gv cv gm cm P V5 Ms _ _ _ HP.out (PL.out ⟨10, by decide⟩).2.1 (PL.out ⟨11, by decide⟩).2.1 (PL.out ⟨10, by decide⟩).2.2.1 (PL.out ⟨10, by decide⟩).2.2.2 (PL.out ⟨11, by decide⟩).2.2.1 (PL.out ⟨11, by decide⟩).2.2.2 (fun j hj => Bk.keep_cell HM5.out.2 (HC.out j hj) HNE.out) HNE.out HM5.out.1.2 HM5.out.1.1 (fun c a a' w h e => HQ.out c a a' w h e) ?_
      intro y234 y235 y236 y237 y238 y239 y240 y241 y242 y243 y244 y245 y246 y247 w6 hv hk
      obtain ⟨V6, hV6⟩ : ∃ L, L = Bk.inner Ms R0 V0 6 := ⟨_, rfl⟩
      have HV6 := Aside0.mk hV6
      have HM6 := Aside0.mk (show (VAt w6 gv V6 ∧ V6.length = 16) ∧ Bk.KeepBut W w6 gv none from ⟨⟨by rw [hV6, show Bk.inner Ms R0 V0 6 = mixL (Bk.inner Ms R0 V0 5) 1 6 11 12 (Ms.getD (R0.getD 10 0).toNat 0) (Ms.getD (R0.getD 11 0).toNat 0) from rfl, ← HV5.out]; exact hv, by rw [hV6, Bk.inner_len, HL0.out]⟩, HM5.out.2.trans hk⟩)
      clear hv hk hV6
      go_upto_region 39 with fail
      refine m_mix6 gv cv gm cm P V6 Ms _ _ _ HP.out (PL.out ⟨12, by decide⟩).2.1 (PL.out ⟨13, by decide⟩).2.1 (PL.out ⟨12, by decide⟩).2.2.1 (PL.out ⟨12, by decide⟩).2.2.2 (PL.out ⟨13, by decide⟩).2.2.1 (PL.out ⟨13, by decide⟩).2.2.2 (fun j hj => Bk.keep_cell HM6.out.2 (HC.out j hj) HNE.out) HNE.out HM6.out.1.2 HM6.out.1.1 (fun c a a' w h e => HQ.out c a a' w h e) ?_
      intro y248 y249 y250 y251 y252 y253 y254 y255 y256 y257 y258 y259 y260 y261 w7 hv hk
      obtain ⟨V7, hV7⟩ : ∃ L, L = Bk.inner Ms R0 V0 7 := ⟨_, rfl⟩
      have HV7 := Aside0.mk hV7
      have HM7 := Aside0.mk (show (VAt w7 gv V7 ∧ V7.length = 16) ∧ Bk.KeepBut W w7 gv none from ⟨⟨by rw [hV7, show Bk.inner Ms R0 V0 7 = mixL (Bk.inner Ms R0 V0 6) 2 7 8 13 (Ms.getD (R0.getD 12 0).toNat 0) (Ms.getD (R0.getD 13 0).toNat 0) from rfl, ← HV6.out]; exact hv, by rw [hV7, Bk.inner_len, HL0.out]⟩, HM6.out.2.trans hk⟩)
      clear hv hk hV7
      go_upto_region 40 with fail
      refine m_mix7 gv cv gm cm P V7 Ms _ _ _ HP.out (PL.out ⟨14, by decide⟩).2.1 (PL.out ⟨15, by decide⟩).2.1 (PL.out ⟨14, by decide⟩).2.2.1 (PL.out ⟨14, by decide⟩).2.2.2 (PL.out ⟨15, by decide⟩).2.2.1 (PL.out ⟨15, by decide⟩).2.2.2 (fun j hj => Bk.keep_cell HM7.out.2 (HC.out j hj) HNE.out) HNE.out HM7.out.1.2 HM7.out.1.1 (fun c a a' w h e => HQ.out c a a' w h e) ?_
      intro y262 y263 y264 y265 y266 y267 y268 y269 y270 y271 y272 y273 y274 y275 w8 hv hk
      obtain ⟨V8, hV8⟩ : ∃ L, L = Bk.inner Ms R0 V0 8 := ⟨_, rfl⟩
      have HV8 := Aside0.mk hV8
      have HM8 := Aside0.mk (show (VAt w8 gv V8 ∧ V8.length = 16) ∧ Bk.KeepBut W w8 gv none from ⟨⟨by rw [hV8, show Bk.inner Ms R0 V0 8 = mixL (Bk.inner Ms R0 V0 7) 3 4 9 14 (Ms.getD (R0.getD 14 0).toNat 0) (Ms.getD (R0.getD 15 0).toNat 0) from rfl, ← HV7.out]; exact hv, by rw [hV8, Bk.inner_len, HL0.out]⟩, HM7.out.2.trans hk⟩)
      clear hv hk hV8
      go_wp2_with fail
      go_roundw
      case rel =>
        refine ⟨k + 1, hlt, rfl, Aside0.mk ⟨?_, HM8.out.2⟩⟩
        have h := HM8.out.1.1
        rw [HV8.out] at h
        rw [show outer Ms V (k + 1) = Bk.inner Ms (rowsL.getD k []) (outer Ms V k) 8 from rfl, ← HR0.out]
        rw [← HVK.out]
        exact h
      case measure => simp [intOf]; omega
    · obtain rfl : k = 10 := by omega
      go_wp2_with fail
      exact HK.out _ _ _ _ _ _ _ _ _ _ _ _ _ _ _ _ _ _ _ _ _ _ _ _ _ _ _ _ _ _ _ _ _ _ _ _ _ _ _ _ _ _ _ _ _ _ _ _ _ _ _ _ _ _ _ _ _ _ _ _ _ _ _ _ _ _ _ _ _ _ _ _ _ _ _ _ _ _ _ _ _ _ _ _ _ _ _ _ _ _ _ _ _ _ _ _ _ _ _ _ _ _ _ _ _ _ _ _ _ _ _ _ _ _ _ _ _ _ _ _ _ _ _ HV.out.1 HV.out.2
end Go.Proofs.Ytacjfgdehnenpaa.Rf5
