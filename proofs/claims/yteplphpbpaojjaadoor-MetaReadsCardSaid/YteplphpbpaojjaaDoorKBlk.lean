import Derived.Test.YteplphpbpaojjaaDoorProg
import Derived.Below
import Derived.Deep.Draws
import Derived.Deep.AppendLies
import Derived.Maps.AppendAt
import Derived.OwnWalk
import Derived.Laws.BytesArg
import Derived.Laws.MakeOwn
import Derived.Laws.OwnMore
import Derived.Deep.OwnRows
import Derived.Tactics
import Derived.Lib.ConvBytes
import Derived.Laws.Slices
import Derived.WalkKit
import Derived.KernelRfl
import Derived.RowKit3
import Derived.Deep.LoopGhost
import Derived.Deep.QuietTactic
import Derived.BigQuiet
import Derived.WideLaws
import Derived.Deep.DeepCutAuto
import Derived.Deep.CutBlock
import Derived.Deep.RegionHeld3
import Derived.Test.YteplphpbpaojjaaDoorWInvWords
import Derived.Laws.Rows
import Derived.Lib.AppendStr
import Derived.ArgAppend
import Derived.Laws.IdiomCopy
import Derived.OrdersHeld
import Derived.Laws.BitsLemmas
import Derived.RowKit
import Derived.Test.YteplphpbpaojjaaDoorWWords
import Derived.Test.YteplphpbpaojjaaDoorWLast
import Derived.Test.YteplphpbpaojjaaDoorWMore
import Derived.OpenShut
import Derived.Test.YteplphpbpaojjaaDoorBk12
import Derived.Test.YteplphpbpaojjaaDoorKTab
import Derived.Test.YteplphpbpaojjaaDoorKMix
import Derived.Test.YteplphpbpaojjaaDoorKFin
import Derived.Test.YteplphpbpaojjaaDoorPRefx42
namespace Go.Proofs.YteplphpbpaojjaaDoor.Rf5
open Go.RowKit Go.Proofs.YteplphpbpaojjaaDoorW.PrintWords Go.Proofs.YteplphpbpaojjaaDoorW.PrintLast Go.Proofs.YteplphpbpaojjaaDoorW.PrintMore Go.Proofs.YteplphpbpaojjaaDoor.PRef
open Go.Proofs.YteplphpbpaojjaaDoor.Bk (firstsL initL keyL strL digest blakeKeyed compress wordsL wordAt veeL outL outB rowsL mixL finL)
set_option linter.unusedVariables false
set_option linter.unusedSimpArgs false
attribute [local go_sem] max2_int min2_int max_two min_two max_three min_three max_four min_four
open Go.Proofs.YteplphpbpaojjaaDoor.Bk (inner outer)
theorem VAt.below {W W1 : World} {g : Nat} {L : List Int} (h : VAt W g L) (hg : g < W.heap.size) (hb : Below W.heap.size W W1) : VAt W1 g L :=
  ⟨fun i hi => (World.cell?_of_block (a := ⟨g, i, none⟩) (hb.block g hg)).trans (h.cell i hi), fun i hi => (World.frozen?_of_block (a := ⟨g, i, none⟩) (hb.block g hg)).trans (h.free i hi)⟩
theorem VAt.keep {W W1 : World} {g g' : Nat} {L : List Int} (h : VAt W g L) (hg : g < W.heap.size) (hk : Bk.KeepBut W W1 g' none) (hne : g ≠ g') : VAt W1 g L :=
  ⟨fun i hi => (World.cell?_of_block (a := ⟨g, i, none⟩) (hk.block g hg hne (by simp))).trans (h.cell i hi), fun i hi => (World.frozen?_of_block (a := ⟨g, i, none⟩) (hk.block g hg hne (by simp))).trans (h.free i hi)⟩
set_option maxHeartbeats 8000000 in
set_option maxRecDepth 1000000 in
theorem m_round {u0 u1 u2 u3 u4 u5 u11 u12 u13 u14 u15 u16 u17 u18 u19 u20 u21 u22 u23 u24 u25 u26 u27 u28 u29 u30 u31 u32 u33 u34 u35 u36 u37 u38 u39 u40 u41 u42 u43 u44 u45 u46 u47 u48 u49 u50 u51 u52 u53 u54 u55 u56 u57 u58 u59 u60 u61 u62 u63 u64 u65 u66 u67 u68 u69 u70 u71 u72 u73 u74 u75 u76 u77 u78 u79 u80 u81 u82 u83 u84 u85 u86 u87 u88 u89 u90 u91 u92 u93 u94 u95 u96 u97 u98 u99 u100 u101 u102 u103 u104 u105 u106 u107 u108 u109 u110 u111 u112 u113 u114 u115 u116 u117 u118 u119 u120 u121 u122 u123 u124 u125 u126 u127 u128 u129 u130 u131 u132 u133 u134 u135 u136 u137 u138 u139 u140 u141 u142 u143 u144 u145 u146 u147 u148 u149 u150 u151 u152 u153 u154 u155 u156 u157 u158 u159 u160 u161 u162 u163 u164 u165 u166 u167 u168 u169 u170 u171 u172 u173 u174 u175 u176 u177 u178 u179 u180 u181 u182 u183 u184 u185 u186 u187 u188 u189 u190 u191 u192 u193 u194 u195 u196 u197 u198 u199 u200 u201 u202 u203 u204 u205 u206 u207 u208 u209 u210 u211 u212 u213 u214 u215 u216 u217 u218 u219 u220 u221 u222 u223 u224 u225 u226 u227 u228 u229 u230 u231 u232 u233 u234 u235 u236 u237 u238 u239 u240 u241 u242 u243 u244 u245 u246 u247 u248 u249 u250 u251 u252 u253 u254 u255 u256 u257 u258 u259 u260 u261 u262 u263 u264 u265 u266 u267 u268 u269 u270 u271 u272 u273 u274 u275 u276 u277 u278 u279 u280 u281 u282 u283 u284 u285 u286 u287 u288 u289 u290 u291 u292 u293 u294 u295 u296 u297 u298 u299 u300 u301 u302 u303 u304 u305 u306 u307 u308 u309 u310 u311 u312 u313 u314 u315 u316 u317 u318 u319 u320 u321 u322 u323 u324 u325 u326 u327 u328 u329 u330 u331 u332 : Value} (gf cf gh ch ga ca N T F : Nat) (All H8 : List Int) (W : World) (hF : F + 64 ≤ N) (hN : N ≤ 140737488355328 + 64) (hT : T ≤ N) (hal : All.length = N)
    (ha : ∀ j, j < N → W.cell? ⟨ga, j, none⟩ = some (.int .u8 (All.getD j 0))) (hr : ∀ j, 0 ≤ All.getD j 0 ∧ All.getD j 0 < 256) (hf : ∀ j, j < 8 → W.cell? ⟨gf, j, none⟩ = some (.int .u32 (firstsL.getD j 0)))
    (hh : VAt W gh H8) (hl : H8.length = 8) (hgl : gh < W.heap.size)
    {K : Act → World → Prop} {Q : Exit → Act → World → Prop} (hQ : ∀ c a a' w, Q (Exit.panic c) a w → a.defers = a'.defers → Q (Exit.panic c) a' w)
    (hK : ∀ (x11 x12 x13 x14 x15 x16 x17 x18 x19 x76 x77 x78 x79 x80 x81 x82 x83 x84 x85 x86 x87 x88 x89 x90 x91 x92 x93 x94 x95 x96 x97 x98 x99 x100 x101 x102 x103 x104 x105 x106 x107 x108 x109 x110 x111 x112 x113 x114 x115 x116 x117 x118 x119 x120 x121 x122 x123 x124 x125 x126 x127 x128 x129 x130 x131 x132 x133 x134 x135 x136 x137 x138 x139 x140 x141 x142 x143 x144 x145 x146 x147 x148 x149 x150 x151 x152 x153 x154 x155 x156 x157 x158 x159 x160 x161 x162 x163 x164 x165 x166 x167 x168 x169 x170 x171 x172 x173 x174 x175 x176 x177 x178 x179 x180 x181 x182 x183 x184 x185 x186 x187 x188 x189 x190 x191 x192 x193 x194 x195 x196 x197 x198 x199 x200 x201 x202 x203 x204 x205 x206 x207 x208 x209 x210 x211 x212 x213 x214 x215 x216 x217 x218 x219 x220 x221 x222 x223 x224 x225 x226 x227 x228 x229 x230 x231 x232 x233 x234 x235 x236 x237 x238 x239 x240 x241 x242 x243 x244 x245 x246 x247 x248 x249 x250 x251 x252 x253 x254 x255 x256 x257 x258 x259 x260 x261 x262 x263 x264 x265 x266 x267 x268 x269 x270 x271 x272 x273 x274 x275 x276 x277 x278 x279 x280 x281 x282 x283 x284 x285 x286 x287 x288 x289 x290 x291 x292 x293 x294 x295 x296 x297 : Value) (w' : World), VAt w' gh (compress H8 ((All.drop F).take 64) ((min (F + 64) T : Nat) : Int) (decide (N ≤ F + 64))) → Bk.KeepBut W w' gh none → K ⟨#[u0, u1, u2, u3, u4, u5, .slice (some ⟨gf, 0, none⟩) 8 cf, .slice (some ⟨gh, 0, none⟩) 8 ch, .slice (some ⟨ga, 0, none⟩) N ca, .int .i64 (T : Int), .int .i64 (F : Int), x11, x12, x13, x14, x15, x16, x17, x18, x19, u20, u21, u22, u23, u24, u25, u26, u27, u28, u29, u30, u31, u32, u33, u34, u35, u36, u37, u38, u39, u40, u41, u42, u43, u44, u45, u46, u47, u48, u49, u50, u51, u52, u53, u54, u55, u56, u57, u58, u59, u60, u61, u62, u63, u64, u65, u66, u67, u68, u69, u70, u71, u72, u73, u74, u75, x76, x77, x78, x79, x80, x81, x82, x83, x84, x85, x86, x87, x88, x89, x90, x91, x92, x93, x94, x95, x96, x97, x98, x99, x100, x101, x102, x103, x104, x105, x106, x107, x108, x109, x110, x111, x112, x113, x114, x115, x116, x117, x118, x119, x120, x121, x122, x123, x124, x125, x126, x127, x128, x129, x130, x131, x132, x133, x134, x135, x136, x137, x138, x139, x140, x141, x142, x143, x144, x145, x146, x147, x148, x149, x150, x151, x152, x153, x154, x155, x156, x157, x158, x159, x160, x161, x162, x163, x164, x165, x166, x167, x168, x169, x170, x171, x172, x173, x174, x175, x176, x177, x178, x179, x180, x181, x182, x183, x184, x185, x186, x187, x188, x189, x190, x191, x192, x193, x194, x195, x196, x197, x198, x199, x200, x201, x202, x203, x204, x205, x206, x207, x208, x209, x210, x211, x212, x213, x214, x215, x216, x217, x218, x219, x220, x221, x222, x223, x224, x225, x226, x227, x228, x229, x230, x231, x232, x233, x234, x235, x236, x237, x238, x239, x240, x241, x242, x243, x244, x245, x246, x247, x248, x249, x250, x251, x252, x253, x254, x255, x256, x257, x258, x259, x260, x261, x262, x263, x264, x265, x266, x267, x268, x269, x270, x271, x272, x273, x274, x275, x276, x277, x278, x279, x280, x281, x282, x283, x284, x285, x286, x287, x288, x289, x290, x291, x292, x293, x294, x295, x296, x297, u298, u299, u300, u301, u302, u303, u304, u305, u306, u307, u308, u309, u310, u311, u312, u313, u314, u315, u316, u317, u318, u319, u320, u321, u322, u323, u324, u325, u326, u327, u328, u329, u330, u331, u332], []⟩ w') :
    Code.wp Tryd.prog (kBlk 5) (Exit.then K Q) ⟨#[u0, u1, u2, u3, u4, u5, .slice (some ⟨gf, 0, none⟩) 8 cf, .slice (some ⟨gh, 0, none⟩) 8 ch, .slice (some ⟨ga, 0, none⟩) N ca, .int .i64 (T : Int), .int .i64 (F : Int), u11, u12, u13, u14, u15, u16, u17, u18, u19, u20, u21, u22, u23, u24, u25, u26, u27, u28, u29, u30, u31, u32, u33, u34, u35, u36, u37, u38, u39, u40, u41, u42, u43, u44, u45, u46, u47, u48, u49, u50, u51, u52, u53, u54, u55, u56, u57, u58, u59, u60, u61, u62, u63, u64, u65, u66, u67, u68, u69, u70, u71, u72, u73, u74, u75, u76, u77, u78, u79, u80, u81, u82, u83, u84, u85, u86, u87, u88, u89, u90, u91, u92, u93, u94, u95, u96, u97, u98, u99, u100, u101, u102, u103, u104, u105, u106, u107, u108, u109, u110, u111, u112, u113, u114, u115, u116, u117, u118, u119, u120, u121, u122, u123, u124, u125, u126, u127, u128, u129, u130, u131, u132, u133, u134, u135, u136, u137, u138, u139, u140, u141, u142, u143, u144, u145, u146, u147, u148, u149, u150, u151, u152, u153, u154, u155, u156, u157, u158, u159, u160, u161, u162, u163, u164, u165, u166, u167, u168, u169, u170, u171, u172, u173, u174, u175, u176, u177, u178, u179, u180, u181, u182, u183, u184, u185, u186, u187, u188, u189, u190, u191, u192, u193, u194, u195, u196, u197, u198, u199, u200, u201, u202, u203, u204, u205, u206, u207, u208, u209, u210, u211, u212, u213, u214, u215, u216, u217, u218, u219, u220, u221, u222, u223, u224, u225, u226, u227, u228, u229, u230, u231, u232, u233, u234, u235, u236, u237, u238, u239, u240, u241, u242, u243, u244, u245, u246, u247, u248, u249, u250, u251, u252, u253, u254, u255, u256, u257, u258, u259, u260, u261, u262, u263, u264, u265, u266, u267, u268, u269, u270, u271, u272, u273, u274, u275, u276, u277, u278, u279, u280, u281, u282, u283, u284, u285, u286, u287, u288, u289, u290, u291, u292, u293, u294, u295, u296, u297, u298, u299, u300, u301, u302, u303, u304, u305, u306, u307, u308, u309, u310, u311, u312, u313, u314, u315, u316, u317, u318, u319, u320, u321, u322, u323, u324, u325, u326, u327, u328, u329, u330, u331, u332], []⟩ W := by
  have HK := Aside0.mk hK
  have HQ := Aside0.mk hQ
  have HA := Aside0.mk ha
  have HRG := Aside0.mk hr
  have HFF := Aside0.mk hf
  have HH := Aside0.mk hh
  have HL := Aside0.mk hl
  have HAL := Aside0.mk hal
  have HGL := Aside0.mk hgl
  clear hK hQ ha hr hf hh hl hal hgl
  conv => arg 2; whnf
  go_upto_block 6 with fail
  obtain ⟨n, hn⟩ : ∃ n : Int, n = (if (T : Int) < (F : Int) + 64 then (T : Int) else (F : Int) + 64) := ⟨_, rfl⟩
  rw [← hn]
  have hmin : n = ((min (F + 64) T : Nat) : Int) := by rw [hn]; split <;> omega
  have hn0 : 0 ≤ n := by omega
  have hn1 : n ≤ 140737488355328 + 64 := by omega
  have HMIN := Aside0.mk hmin
  clear hn hmin
  obtain ⟨last, hlast⟩ : ∃ b, b = decide ((N : Int) ≤ (F : Int) + 64) := ⟨_, rfl⟩
  rw [← hlast]
  have HLAST := Aside0.mk hlast
  clear hlast
  refine m_words ga N ca F All W hF hN HAL.out HA.out HRG.out (fun c a a' w h e => HQ.out c a a' w h e) ?_
  intro y14 y87 y88 y89 y90 y91 y92 y93 y94 y95 y96 y97 y98 y99 y100 y101 y102 y103 y104 y105 y106 y107 y108 y109 y110 y111 y112 y113 y114 y115 y116 y117 y118 y119 y120 y121 y122 y123 y124 gm cm w1 hgm hgm2 hM hB1
  have HM := Aside0.mk (And.intro hgm (And.intro hgm2 (And.intro hM hB1)))
  have H1 := Aside0.mk (show (∀ j, j < 8 → w1.cell? ⟨gh, j, none⟩ = some (.int .u32 (H8.getD j 0))) ∧ (∀ j, j < 8 → w1.cell? ⟨gf, j, none⟩ = some (.int .u32 (firstsL.getD j 0))) from ⟨fun j hj => pw_cell_below hB1 (HH.out.cell j (by rw [HL.out]; exact hj)), fun j hj => pw_cell_below hB1 (HFF.out j hj)⟩)
  clear hgm hgm2 hM hB1
  go_upto_if 148 with (first | ((with_reducible refine gate_builtin (b := .append) (xs := #[.tmp 125, .tmp 126]) rfl ?_); (try (refine gate_guard (by rfl) ?_; dsimp only)); at_builtin; refine app_row 74 4 infoU32 (by decide) _ rfl (.tmp 125) (.tmp 126) 86 86 rfl Tryd.underlying86 rfl (BAt.nil .u32 w1 w1.heap.size _ _ (Nat.le_refl _) _ ((Below.refl _ _).alloc (Nat.le_refl _) _) rfl) (by simp) _ 8 H8 rfl (src_cells .u32 86 74 Tryd.underlying86 gh 8 ch H8 HL.out _ (fun j hj => pw_cell_below ((Below.refl _ _).alloc (Nat.le_refl _) _) (H1.out.1 j hj))) (by decide) ?_; intro v2 w2 hU; have HU := Aside0.mk hU; obtain ⟨a2, c2, e2⟩ := hU.shape; subst e2; clear hU) | ((with_reducible refine gate_builtin (b := .append) (xs := #[.tmp 127, .tmp 128]) rfl ?_); (try (refine gate_guard (by rfl) ?_; dsimp only)); at_builtin; refine app_row 74 4 infoU32 (by decide) _ rfl (.tmp 127) (.tmp 128) 86 86 rfl Tryd.underlying86 rfl HU.out HU.out.below.size _ 8 firstsL rfl (src_cells .u32 86 74 Tryd.underlying86 gf 8 cf firstsL rfl _ (fun j hj => pw_cell_below HU.out.below (H1.out.2 j hj))) (by rw [List.nil_append, HL.out]; decide) ?_; intro v3 w3 hU3; obtain ⟨gv, cv, ev, hgv, hcv, hvc, hvf⟩ := hU3.ex; subst ev; (have hl3 : ([] ++ H8 ++ firstsL).length = 16 := by (rw [List.nil_append, List.length_append, HL.out]; rfl)); rw [hl3] at hvc hcv ⊢; rw [List.nil_append] at hvc; have HV := Aside0.mk (show VAt w3 gv (H8 ++ firstsL) from ⟨fun j hj => hvc j (by (rw [List.nil_append] at hl3; omega)), fun j hj => (hvf j (by (rw [List.nil_append] at hl3; omega))).2⟩); have c12 := hvc 12 (by decide); have HB3 := Aside0.mk (And.intro hU3.below (And.intro hgv (show gv < w3.heap.size from World.block_lt_of_cell? _ _ c12))); have c13 := hvc 13 (by decide); obtain ⟨a12, h12⟩ : ∃ a, a = (H8 ++ firstsL).getD 12 0 := ⟨_, rfl⟩; obtain ⟨a13, h13⟩ : ∃ a, a = (H8 ++ firstsL).getD 13 0 := ⟨_, rfl⟩; rw [← h12] at c12; rw [← h13] at c13; have H1213 := Aside0.mk (And.intro h12 h13); clear h12 h13; have f12 := (hvf 12 (by omega)).2; have f13 := (hvf 13 (by omega)).2; clear hU3 HU hgv hcv hvc hvf hl3))
  have hL2 : ∃ L, L = ((H8 ++ firstsL).set 12 (Go.bits .xor .u32 a12 (n % 4294967296))).set 13 (Go.bits .xor .u32 a13 (n / 4294967296)) := ⟨_, rfl⟩
  obtain ⟨L2, hL2⟩ := hL2
  have hlen0 : (H8 ++ firstsL).length = 16 := by rw [List.length_append, HL.out]; rfl
  have hV2 := (HV.out.put 12 (by rw [hlen0]; decide) (Go.bits .xor .u32 a12 (n % 4294967296))).put 13 (by rw [List.length_set, hlen0]; decide) (Go.bits .xor .u32 a13 (n / 4294967296))
  rw [← hL2] at hV2
  have hlen2 : L2.length = 16 := by rw [hL2, List.length_set, List.length_set, hlen0]
  have hk2 := ((Bk.KeepBut.refl w3 gv none).set_ 12 (.int .u32 (Go.bits .xor .u32 a12 (n % 4294967296)))).set_ 13 (.int .u32 (Go.bits .xor .u32 a13 (n / 4294967296)))
  have HV2 := Aside0.mk (And.intro hV2 hk2)
  have HL2 := Aside0.mk (And.intro hL2 hlen2)
  clear c12 c13 f12 f13 hL2 hV2 hk2 hlen2 HV
  generalize (w3.setCell ⟨gv, 12, none⟩ (.int .u32 (Go.bits .xor .u32 a12 (n % 4294967296)))).setCell ⟨gv, 13, none⟩ (.int .u32 (Go.bits .xor .u32 a13 (n / 4294967296))) = w4 at *
  have HLEN0 := Aside0.mk hlen0
  clear hlen0
  go_cut [] from 149 to 154 (fun wx => Aside0 (VAt wx gv (veeL H8 n last) ∧ Bk.KeepBut w3 wx gv none))
  case first =>
    have hve : veeL H8 n last = if last then L2.set 14 (Go.bits .xor .u32 4294967295 (L2.getD 14 0)) else L2 := by
      have e : n / 4294967296 % 4294967296 = n / 4294967296 := by omega
      unfold Bk.veeL
      dsimp only
      have g13 : ((H8 ++ firstsL).set 12 (Go.bits .xor .u32 a12 (n % 4294967296))).getD 13 0 = a13 := by
        rw [H1213.out.2]
        simp [List.getD_eq_getElem?_getD, List.getElem?_set]
      rw [← H1213.out.1, g13, e, ← HL2.out.1]
      rfl
    have HVE := Aside0.mk hve
    clear hve
    cases last with
    | true =>
      have c14 := HV2.out.1.cell 14 (by rw [HL2.out.2]; decide)
      have f14 := HV2.out.1.free 14 (by rw [HL2.out.2]; decide)
      obtain ⟨a14, h14⟩ : ∃ a, a = L2.getD 14 0 := ⟨_, rfl⟩
      rw [← h14] at c14
      have H14 := Aside0.mk h14
      clear h14
      go_wp2_with fail
      go_meet
      refine Aside0.mk ⟨?_, ?_⟩
      · rw [HVE.out, if_pos rfl, ← H14.out, show Go.bits .xor .u32 4294967295 a14 = Go.bits .xor .u32 a14 4294967295 by simp only [Go.bits, BitVec.xor_comm]]
        exact HV2.out.1.put 14 (by rw [HL2.out.2]; decide) _
      · exact HV2.out.2.set_ _ _
    | false =>
      go_wp2_with fail
      go_meet
      refine Aside0.mk ⟨?_, HV2.out.2⟩
      rw [HVE.out]
      exact HV2.out.1
  case rest =>
    have HV4 := hcut
    clear hcut HV2 HL2
    go_wp2_with fail
    refine (hamperref05_places.calls placesB _ places_f).mono ?_
    rintro e w5 ⟨vl, rfl, hR, hB5⟩
    obtain ⟨gl, cl, rfl, hgl1, hgl2, _⟩ := Kd.R_form hR (by rw [places_len]; decide)
    have hpc : ∀ j, j < 10 → w5.cell? ⟨gl, j, none⟩ = some (.string (placesB.getD j ⟨#[]⟩)) := by
      intro j hj
      have h := (Kd.R_celln (⟨#[]⟩ : ByteArray) hR (j : Int) (by omega) (by rw [places_len]; exact_mod_cast hj)).1
      rw [Int.toNat_natCast] at h
      refine h.trans ?_
      simp [rdOf, Int.toNat_natCast]
    rw [places_len]
    dsimp only
    have hvl : (veeL H8 n last).length = 16 := by
      unfold Bk.veeL
      cases last <;> simp [HL.out, show firstsL.length = 8 from rfl]
    have hgW := HGL.out
    obtain ⟨hgm, hgm2, hM, hB1⟩ := HM.out
    obtain ⟨hB3, hgv, hgv3⟩ := HB3.out
    obtain ⟨hv4, hk4⟩ := HV4.out
    have s1 := hB1.size
    have s3 := hB3.size
    have s4 := hk4.size
    have s5 := hB5.size
    have hv5 := hv4.below (by omega) hB5
    have hm5 : ∀ j, j < 16 → w5.cell? ⟨gm, j, none⟩ = some (.int .u32 ((wordsL ((All.drop F).take 64)).getD j 0)) := fun j hj => pw_cell_below hB5 (Bk.keep_cell hk4 (pw_cell_below hB3 (hM j hj)) (by show gm ≠ gv; omega))
    have hh5 : VAt w5 gh H8 := (((HH.out.below hgW hB1).below (by omega) hB3).keep (by omega) hk4 (by omega)).below (by omega) hB5
    have k5 : Bk.KeepBut W w5 gh none := (Bk.keep_beside ((Bk.KeepBut.of_below hB1 gh none).trans (Bk.KeepBut.of_below hB3 gh none)) hk4 (by omega)).trans (Bk.KeepBut.of_below hB5 gh none)
    have HX := Aside0.mk (And.intro hpc (And.intro hvl (And.intro hv5 (And.intro hm5 (And.intro hh5 k5)))))
    have HN := Aside0.mk (show gm ≠ gv ∧ gl ≠ gv ∧ gv ≠ gh ∧ gh < w5.heap.size ∧ W.heap.size ≤ gv from ⟨by omega, by omega, by omega, by omega, by omega⟩)
    clear hR hpc hvl hgW hgm hgm2 hM hB1 hB3 hgv hv4 hk4 s1 s3 s4 s5 hgv3 hv5 hm5 hh5 k5 hgl1 hgl2 hB5
    go_upto_block 8 with fail
    refine m_rounds gv cv gm cm gl cl (veeL H8 n last) (wordsL ((All.drop F).take 64)) _ HX.out.2.2.2.1 HX.out.1 HN.out.1 HN.out.2.1 HX.out.2.1 HX.out.2.2.1 (fun c a a' w h e => HQ.out c a a' w h e) ?_
    intro z17 z18 z156 z157 z158 z159 z160 z161 z162 z163 z164 z165 z166 z167 z168 z169 z170 z171 z172 z173 z174 z175 z176 z177 z178 z179 z180 z181 z182 z183 z184 z185 z186 z187 z188 z189 z190 z191 z192 z193 z194 z195 z196 z197 z198 z199 z200 z201 z202 z203 z204 z205 z206 z207 z208 z209 z210 z211 z212 z213 z214 z215 z216 z217 z218 z219 z220 z221 z222 z223 z224 z225 z226 z227 z228 z229 z230 z231 z232 z233 z234 z235 z236 z237 z238 z239 z240 z241 z242 z243 z244 z245 z246 z247 z248 z249 z250 z251 z252 z253 z254 z255 z256 z257 z258 z259 z260 z261 z262 z263 z264 z265 z266 z267 z268 z269 z270 z271 z272 z273 z274 z275 w6 hv6 hk6
    have HY := Aside0.mk (And.intro hv6 hk6)
    clear hv6 hk6
    go_upto_block 10 with fail
    refine m_fin gh ch gv cv H8 (Bk.outer (wordsL ((All.drop F).take 64)) (veeL H8 n last) 10) _ HN.out.2.2.1 HL.out (HX.out.2.2.2.2.1.keep HN.out.2.2.2.1 HY.out.2 (fun e => HN.out.2.2.1 e.symm)) (fun j hj => HY.out.1.cell j (by rw [Bk.outer_len, HX.out.2.1]; exact hj)) (fun c a a' w h e => HQ.out c a a' w h e) ?_
    intro t19 t276 t277 t278 t279 t280 t281 t282 t283 t284 t285 t286 t287 t288 t289 t290 t291 t292 t293 t294 t295 t296 t297 w7 hv7 hk7
    refine HK.out _ _ _ _ _ _ _ _ _ _ _ _ _ _ _ _ _ _ _ _ _ _ _ _ _ _ _ _ _ _ _ _ _ _ _ _ _ _ _ _ _ _ _ _ _ _ _ _ _ _ _ _ _ _ _ _ _ _ _ _ _ _ _ _ _ _ _ _ _ _ _ _ _ _ _ _ _ _ _ _ _ _ _ _ _ _ _ _ _ _ _ _ _ _ _ _ _ _ _ _ _ _ _ _ _ _ _ _ _ _ _ _ _ _ _ _ _ _ _ _ _ _ _ _ _ _ _ _ _ _ _ _ _ _ _ _ _ _ _ _ _ _ _ _ _ _ _ _ _ _ _ _ _ _ _ _ _ _ _ _ _ _ _ _ _ _ _ _ _ _ _ _ _ _ _ _ _ _ _ _ _ _ _ _ _ _ _ _ _ _ _ _ _ _ _ _ _ _ _ _ _ _ _ _ _ _ _ _ _ _ _ _ _ _ _ _ _ _ _ _ _ _ _ _ _ _ _ _ _ _ _ w7 ?_ ?_
    · rw [← HMIN.out, show decide (N ≤ F + 64) = last by rw [HLAST.out]; exact decide_eq_decide.mpr (by omega)]
      exact hv7
    · exact (Bk.keep_beside HX.out.2.2.2.2.2 HY.out.2 HN.out.2.2.2.2).trans hk7
end Go.Proofs.YteplphpbpaojjaaDoor.Rf5
