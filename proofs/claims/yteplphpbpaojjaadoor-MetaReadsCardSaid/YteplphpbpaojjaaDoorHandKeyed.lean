/- The document's BLAKE2s, walked: what its Keyed and its Sum tell. -/
import Derived.Test.YteplphpbpaojjaaDoorProg
import Derived.Below
import Derived.Deep.Draws
import Derived.Deep.AppendLies
import Derived.Maps.AppendAt
import Derived.OwnWalk
import Derived.Laws.BytesArg
import Derived.Laws.MakeOwn
import Derived.Laws.OwnMore
import Derived.Deep.OwnRows
import Derived.Tactics
import Derived.Lib.ConvBytes
import Derived.Laws.Slices
import Derived.WalkKit
import Derived.KernelRfl
import Derived.RowKit3
import Derived.Deep.LoopGhost
import Derived.Deep.QuietTactic
import Derived.BigQuiet
import Derived.WideLaws
import Derived.Deep.DeepCutAuto
import Derived.Deep.CutBlock
import Derived.Deep.RegionHeld3
import Derived.Test.YteplphpbpaojjaaDoorWInvWords
import Derived.Laws.Rows
import Derived.Lib.AppendStr
import Derived.ArgAppend
import Derived.Laws.IdiomCopy
import Derived.OrdersHeld
import Derived.Laws.BitsLemmas
import Derived.RowKit
import Derived.Test.YteplphpbpaojjaaDoorWWords
import Derived.Test.YteplphpbpaojjaaDoorWLast
import Derived.Test.YteplphpbpaojjaaDoorWMore
import Derived.OpenShut
import Derived.Test.YteplphpbpaojjaaDoorHandMix
import Derived.Test.YteplphpbpaojjaaDoorKTab
import Derived.Test.YteplphpbpaojjaaDoorKBlk
import Derived.Test.YteplphpbpaojjaaDoorKFin
import Derived.Test.YteplphpbpaojjaaDoorPRefx42
import Derived.Test.YteplphpbpaojjaaDoorPRefx53
namespace Go.Proofs.YteplphpbpaojjaaDoor.Rf5
open Go.RowKit Go.Proofs.YteplphpbpaojjaaDoorW.PrintWords Go.Proofs.YteplphpbpaojjaaDoorW.PrintLast Go.Proofs.YteplphpbpaojjaaDoorW.PrintMore Go.Proofs.YteplphpbpaojjaaDoor.PRef
open Go.Proofs.YteplphpbpaojjaaDoor.Bk (firstsL initL keyL strL digest blakeKeyed compress wordsL veeL outer inner outL outB)
set_option linter.unusedVariables false
set_option linter.unusedSimpArgs false
attribute [local go_sem] max2_int min2_int max_two min_two max_three min_three max_four min_four
theorem firsts_len : firstsL.length = 8 := rfl
def padN (T : Nat) : Nat := if T = 0 then 64 else (64 - T % 64) % 64
theorem pad_go {T z : Nat} (h : z < padN T) : T + z = 0 ∨ (T + z) % 64 ≠ 0 := by
  unfold padN at h
  split at h <;> omega
theorem pad_end {T z : Nat} (hz : z ≤ padN T) (h : ¬ z < padN T) : z = padN T ∧ 0 < T + z ∧ (T + z) % 64 = 0 := by
  unfold padN at h hz ⊢
  split at h <;> rename_i q
  · rw [if_pos q] at hz ⊢; omega
  · rw [if_neg q] at hz ⊢; omega
structure K0 (w W : World) (gh : Nat) (hs : List Int) (gf : Nat) : Prop where
  v : VAt W gh hs
  f : ∀ j, j < 8 → W.cell? ⟨gf, j, none⟩ = some (.int .u32 (firstsL.getD j 0))
  fb : gf < gh
  gw : w.heap.size ≤ gh
  gl : gh < W.heap.size
  below : Below w.heap.size w W
theorem init_len (f0 : Int) (k : Nat) (hk : k ≤ 32) (hf : f0 = firstsL.getD 0 0) : firstsL.set 0 (Go.bits .xor .u32 (Go.bits .xor .u32 f0 16842784) (256 * (k : Int))) = initL k := by
  unfold Bk.initL
  rw [xor_assoc, ← hf, show 256 * (k : Int) = (k : Int) % 4294967296 * 256 % 4294967296 by omega]
theorem all_range {key s : ByteArray} {LL All : List Int} {m z : Nat} (hA : All = LL ++ List.replicate z (0 : Int)) (hL : LL = bytesOf key ++ List.replicate m (0 : Int) ++ bytesOf s) (j : Nat) : 0 ≤ All.getD j 0 ∧ All.getD j 0 < 256 := by
  have hb : ∀ s : ByteArray, ∀ x ∈ bytesOf s, 0 ≤ x ∧ x < 256 := fun s x hx => by
    obtain ⟨b, _, rfl⟩ := List.mem_map.1 hx
    have := b.toNat_lt
    omega
  by_cases h : j < All.length
  · have hm : All.getD j 0 ∈ All := by rw [List.getD_eq_getElem?_getD, List.getElem?_eq_getElem h]; exact List.getElem_mem _
    have hall : ∀ x ∈ All, 0 ≤ x ∧ x < 256 := fun x hx => by
      rw [hA, hL] at hx
      rcases List.mem_append.1 hx with hx | hx
      · rcases List.mem_append.1 hx with hx | hx
        · rcases List.mem_append.1 hx with hx | hx
          · exact hb _ x hx
          · have := List.eq_of_mem_replicate hx; omega
        · exact hb _ x hx
      · have := List.eq_of_mem_replicate hx; omega
    exact hall _ hm
  · rw [List.getD_eq_getElem?_getD, List.getElem?_eq_none (by omega)]
    decide
theorem xor_range (a b : Int) : 0 ≤ Go.bits .xor .u32 a b ∧ Go.bits .xor .u32 a b < 4294967296 := by
  rw [xor_bv]
  have := (BitVec.ofInt 32 a ^^^ BitVec.ofInt 32 b).isLt
  omega
theorem fin_range (H V : List Int) (j : Nat) : 0 ≤ (Bk.finL H V).getD j 0 ∧ (Bk.finL H V).getD j 0 < 4294967296 := by
  by_cases h : j < 8
  · rw [fin_get H V j h]
    exact xor_range _ _
  · rw [List.getD_eq_getElem?_getD, List.getElem?_eq_none (by rw [Bk.finL_len]; omega)]
    decide
theorem refB_range : ∀ (k : Nat) (hs rest : List Int) (T F : Nat), (∀ j, 0 ≤ hs.getD j 0 ∧ hs.getD j 0 < 4294967296) → ∀ j, 0 ≤ (refB k hs rest T F).getD j 0 ∧ (refB k hs rest T F).getD j 0 < 4294967296 := by
  intro k
  induction k with
  | zero => intro hs rest T F h; exact h
  | succ k ih =>
    intro hs rest T F h
    rw [refB]
    split
    · exact h
    · exact ih _ _ _ _ (fun j => fin_range _ _ j)
theorem firsts_range : ∀ j : Fin 8, 0 ≤ firstsL.getD j.val 0 ∧ firstsL.getD j.val 0 < 4294967296 := by decide +kernel
theorem init_range (k : Nat) (j : Nat) : 0 ≤ (initL k).getD j 0 ∧ (initL k).getD j 0 < 4294967296 := by
  unfold Bk.initL
  rw [List.getD_eq_getElem?_getD, List.getElem?_set]
  split
  · split
    · exact xor_range _ _
    · decide
  · by_cases h : j < 8
    · have := firsts_range ⟨j, h⟩
      rwa [List.getD_eq_getElem?_getD] at this
    · rw [List.getElem?_eq_none (by rw [firsts_len]; omega)]
      decide
structure K1 (w W : World) (gh : Nat) (hs : List Int) (gf ga : Nat) (all : List Int) : Prop where
  v : VAt W gh hs
  f : ∀ j, j < 8 → W.cell? ⟨gf, j, none⟩ = some (.int .u32 (firstsL.getD j 0))
  a : ∀ j, j < all.length → W.cell? ⟨ga, j, none⟩ = some (.int .u8 (all.getD j 0))
  fh : gf ≠ gh
  ah : ga ≠ gh
  gw : w.heap.size ≤ gh
  gl : gh < W.heap.size
  below : Below w.heap.size w W
theorem K1.of_ {w W0 W : World} {gh : Nat} {hs : List Int} {gf ga : Nat} {all : List Int} (h : K0 w W0 gh hs gf) (hb : Below W0.heap.size W0 W) (hga : W0.heap.size ≤ ga) (ha : ∀ j, j < all.length → W.cell? ⟨ga, j, none⟩ = some (.int .u8 (all.getD j 0))) : K1 w W gh hs gf ga all := by
  have h1 := h.gl
  have h2 := h.fb
  have h3 := h.gw
  refine ⟨⟨fun i hi => ?_, fun i hi => ?_⟩, fun j hj => ?_, ha, by omega, by omega, h3, Nat.lt_of_lt_of_le h1 hb.size, h.below.trans (hb.mono (by omega))⟩
  · exact (World.cell?_of_block (a := ⟨gh, i, none⟩) (hb.block gh h1)).trans (h.v.cell i hi)
  · exact (World.frozen?_of_block (a := ⟨gh, i, none⟩) (hb.block gh h1)).trans (h.v.free i hi)
  · exact (World.cell?_of_block (a := ⟨gf, j, none⟩) (hb.block gf (by omega))).trans (h.f j hj)
set_option maxHeartbeats 8000000 in
set_option maxRecDepth 100000 in
theorem keyed_walk (key s : ByteArray) (h : key.size ≤ 32) (hs : s.size ≤ 140737488351232) (w : World) :
    Calls Tryd.prog 48 #[.string key, .string s] w fun e w' => e = .returned (.tuple #[.string (blakeKeyed key s), .int .i64 0]) ∧ Below w.heap.size w w' := by
  have d0 : decide ((32 : Int) < (key.size : Int)) = false := decide_eq_false (by omega)
  have HB := Aside0.mk (Below.refl w.heap.size w)
  go_enter Tryd.func48, Tryd.ntmps48
  go_wp2_with fail
  refine (hamperref05_First.calls 400 firstsL _ first_f).mono ?_
  rintro e w1 ⟨vf, rfl, hR, hB⟩
  obtain ⟨gf, cf, rfl, _, hgf, _⟩ := Kd.R_form hR (by decide)
  have HGF := Aside0.mk hgf
  clear hgf
  have HOf := Aside0.mk (Kd.R_mono (Kd.R_bound hR) (ok' := fun k => k < w1.heap.size) (fun _ hk => hk.2.2.1))
  replace HB := Aside0.mk hB
  clear hR hB
  go_upto_block 0 with (first
    | ((with_reducible refine gate_dst (N := 26) rfl ?_); (try (refine gate_guard (by rfl) ?_; dsimp only)); refine Kd.R_lit (Kd.int .u32) _ 74 ?hg (N := 26) ?hd (xs := ([] : List Int)) (inner := []) (ok := fun _ => True) (okp := fun _ => True) ?hr ?hp (fun _ hk => hk) trivial (Below.refl _ _) (Nat.le_refl _) (by simp) ?_; (case hd => rfl); (case hg => rfl); (case hr => first | (go_simp; done) | (go_simp; rfl)); (case hp => exact (Reps.none _ _)); intro v0 w2 ho hb hg_ hnew_; have HO0 := Aside0.mk ho; have HNEW := Aside0.mk hnew_; have n0_ := Aside0.mk (Kd.R_below HOf.out hb); have HB1 := Aside0.mk hb; clear HOf; have HOf := n0_; clear n0_ ho hb hg_ hnew_)
    | ((with_reducible refine gate_builtin (b := .append) (xs := #[.tmp 26, .tmp 27]) rfl ?_); (try (refine gate_guard (by rfl) ?_; dsimp only)); at_builtin; refine Kd.R_append_rows (Kd.int .u32) (w0 := w1) w1.heap.size rfl (.tmp 26) (.tmp 27) 86 74 (.int .u32 0) 4 rfl Tryd.underlying86 infoU32 rfl (by decide) (by decide) v0 [] firstsL _ _ _ (fun _ => True) (fun _ => False) rfl rfl ?aO ?aR (fun _ _ h => h) (fun _ h => h.elim) (fun _ _ => trivial) ?aB ?aS ?aL ?_; (case aR => exact (Kd.R_reads' HOf.out).2.2); (case aB => exact HB1.out); (case aO => exact HO0.out); (case aS => exact HB1.out.size); (case aL => decide); intro v1 w3 ho hb hg hat; obtain ⟨gh, ch, eh, gbh, glh, clh, HGh⟩ := Kd.R_form ho (by decide); subst eh; (have hv : VAt w3 gh firstsL := ⟨fun i hi => by have := (Kd.R_celln (0 : Int) ho (i : Int) (by omega) (by exact_mod_cast hi)).1; rwa [Int.toNat_natCast] at this, fun i hi => by have := (Kd.R_celln (0 : Int) ho (i : Int) (by omega) (by exact_mod_cast hi)).2; rwa [Int.toNat_natCast] at this⟩); (have hc0 := hv.cell 0 (by decide)); (have hf0 := hv.free 0 (by decide)); obtain ⟨f0, hff⟩ : ∃ f, f = firstsL.getD 0 0 := ⟨_, rfl⟩; rw [← hff] at hc0; (have HFF := Aside0.mk hff); (have HV := Aside0.mk hv); (have kb := fun W => print_bytes (P := Tryd.prog) 9 51 5 Tryd.underlying9 Tryd.underlying51 Tryd.underlying5 key W); rw [show ([] ++ firstsL : List Int).length = 8 from rfl, show firstsL.length = 8 from rfl]; clear hff hv HGh clh; have n0_ := Aside0.mk (Kd.R_grown HOf.out hg (fun k hk e => by obtain ⟨b, h1, h2⟩ := HNEW.out; rw [h1] at e; injection e with e; omega)); clear HOf HB1; have HOf := n0_; have HB1 := Aside0.mk hb; clear n0_ ho hb hg hat))
  have hsz : (w3.setCell ⟨gh, 0, none⟩ (.int .u32 (Go.bits .xor .u32 (Go.bits .xor .u32 f0 16842784) (256 * (key.size : Int))))).heap.size = w3.heap.size := by simp [World.setCell]
  have hK : K0 w (w3.setCell ⟨gh, 0, none⟩ (.int .u32 (Go.bits .xor .u32 (Go.bits .xor .u32 f0 16842784) (256 * (key.size : Int))))) gh (initL key.size) gf := by
    have hlt : gf < w1.heap.size := HGF.out
    refine ⟨?_, ?_, by omega, by have := HB.out.size; omega, by omega, ?_⟩
    · rw [← init_len f0 key.size h HFF.out]
      exact HV.out.put 0 (by decide) _
    · intro j hj
      have hc := (Kd.R_celln (0 : Int) HOf.out (j : Int) (by omega) (by exact_mod_cast hj)).1
      have hne : gf ≠ gh := by omega
      rw [World.cell?_setCell_other (h := fun z => hne (by injection z with z; exact z.symm))]
      rw [Int.toNat_natCast] at hc
      refine hc.trans ?_
      simp [rdOf, Int.toNat_natCast]
    · exact Below.setCell (HB.out.trans (HB1.out.mono HB.out.size)) (by have := HB.out.size; show _ ≤ gh; omega) _
  rw [← hsz]
  generalize w3.setCell ⟨gh, 0, none⟩ (.int .u32 (Go.bits .xor .u32 (Go.bits .xor .u32 f0 16842784) (256 * (key.size : Int)))) = W0 at *
  have HA := Aside0.mk (bytes_at W0 W0.heap.size (Nat.le_refl _) key W0 (Below.refl _ _))
  have HK := Aside0.mk hK
  have HLK := Aside0.mk h
  clear hK hsz gbh glh hc0 hf0 HV HFF HOf HB HB1 HNEW HO0 kb
  generalize hcap : grownCap W0 key.size 0 5 = cap0 at *
  clear hcap
  go_cut [8] (fun v wc => ∃ m a c, v = .slice a (key.size + m) c ∧ (0 < key.size → key.size + m = 64) ∧ (key.size = 0 → m = 0) ∧ Aside0 (BAt .u8 W0 W0.heap.size wc v (bytesOf key ++ List.replicate m 0)))
  case first =>
    go_wp2_with fail
    go_loopw [8] (fun v wr => ∃ m a c, v = .slice a (key.size + m) c ∧ (0 < key.size → key.size + m ≤ 64) ∧ (key.size = 0 → m = 0) ∧ Aside0 (BAt .u8 W0 W0.heap.size wr v (bytesOf key ++ List.replicate m 0))) (fun v _ => match v with | .slice _ n _ => 64 - n | _ => 0)
    case atStart => exact ⟨0, _, _, rfl, fun _ => by omega, fun _ => rfl, Aside0.mk (by rw [List.replicate_zero, List.append_nil]; exact HA.out)⟩
    case round =>
      obtain ⟨m, a, c, rfl, hm1, hm2, HU⟩ := hrel
      by_cases hgo : 0 < key.size ∧ key.size + m < 64
      · obtain ⟨hg1, hg2⟩ := hgo
        have hg1' : ((key.size : Int) = 0) = False := eq_false (by omega)
        go_wp2_with (first | ((with_reducible refine gate_builtin (b := .append) (xs := #[.tmp 50, .tmp 51]) rfl ?_); (try (refine gate_guard (by rfl) ?_; dsimp only)); at_builtin; refine app_row 5 1 infoU8b (by decide) _ rfl (.tmp 50) (.tmp 51) 51 51 rfl Tryd.underlying51 rfl (HU.out.alloc HU.out.below.size _) (by have := HU.out.below.size; simp; omega) _ 1 [0] rfl ?hS ?hL ?_; (case hS => exact one_src _); (case hL => rw [List.length_append, bytesOf_length, List.length_replicate]; omega); intro v2 w2 hU2; have HU2 := Aside0.mk hU2; obtain ⟨a2, c2, e2⟩ := hU2.shape; subst e2; clear hU2 HU))
        case roundEnd =>
          have hl : (bytesOf key ++ List.replicate m (0 : Int) ++ [0]).length = key.size + (m + 1) := by rw [List.length_append, List.length_append, bytesOf_length, List.length_replicate]; rfl
          have hn : bytesOf key ++ List.replicate m (0 : Int) ++ [0] = bytesOf key ++ List.replicate (m + 1) 0 := by rw [List.append_assoc, List.replicate_succ']
          refine ⟨⟨m + 1, a2, c2, by rw [bytesOf_length], fun _ => by omega, fun h0 => by omega, Aside0.mk ?_⟩, by rw [bytesOf_length]; simp; omega⟩
          rw [← hn]
          rw [bytesOf_length, ← hl]
          exact HU2.out
      · by_cases hk0 : key.size = 0
        · have hk0' : ((key.size : Int) = 0) = True := eq_true (by omega)
          go_wp2_with fail
          go_meet
          exact ⟨m, a, c, rfl, fun h0 => by omega, hm2, HU⟩
        · have hg1 : 0 < key.size := by omega
          have hg1' : ((key.size : Int) = 0) = False := eq_false (by omega)
          have hm1' := hm1 hg1
          go_wp2_with fail
          go_meet
          exact ⟨m, a, c, rfl, fun h0 => by omega, hm2, HU⟩
  case rest =>
    obtain ⟨m, a, c, rfl, hm1, hm2, HU⟩ := hcut
    have HM1 := Aside0.mk hm1
    have HM2 := Aside0.mk hm2
    clear hm1 hm2
    obtain ⟨LL, hLL⟩ : ∃ LL, LL = bytesOf key ++ List.replicate m (0 : Int) ++ bytesOf s := ⟨_, rfl⟩
    have HLL := Aside0.mk hLL
    clear hLL
    go_upto_block 2 with (first | ((with_reducible refine gate_builtin (b := .append) (xs := #[.tmp 53, .tmp 54]) rfl ?_); (try (refine gate_guard (by rfl) ?_; dsimp only)); at_builtin; refine app_row 5 1 infoU8b (by decide) _ rfl (.tmp 53) (.tmp 54) 51 9 rfl Tryd.underlying51 rfl HU.out HU.out.below.size _ s.size (bytesOf s) rfl ?hS ?hL ?_; (case hS => rw [← byteCells_nums]; exact Src.ofString _ Tryd.underlying9 s); (case hL => rw [List.length_append, bytesOf_length, List.length_replicate]; by_cases h0 : key.size = 0; (have := HM2.out h0; omega); (have := HM1.out (by omega); omega)); intro v2 w2 hU2; rw [← HLL.out] at hU2; have HU2 := Aside0.mk hU2; obtain ⟨a2, c2, e2⟩ := hU2.shape; subst e2; clear hU2 HU; obtain ⟨T, hT⟩ : ∃ T, T = LL.length := ⟨_, rfl⟩; rw [← hT] at HU2 ⊢; have HT := Aside0.mk hT; clear hT))
    have hTb : T ≤ 140737488351232 + 64 := by
      rw [HT.out, HLL.out, List.length_append, List.length_append, bytesOf_length, List.length_replicate, bytesOf_length]
      by_cases h0 : key.size = 0
      · have := HM2.out h0; omega
      · have := HM1.out (by omega); omega
    have HTB := Aside0.mk hTb
    clear hTb
    go_cut [8] (fun v wc => ∃ a c N, v = .slice a N c ∧ Aside0 (N = T + padN T ∧ 0 < N ∧ N % 64 = 0) ∧ Aside0 (BAt .u8 W0 W0.heap.size wc v (LL ++ List.replicate (padN T) 0)))
    case first =>
      go_wp2_with fail
      go_loopw [8] (fun v wr => ∃ z a c N, v = .slice a N c ∧ Aside0 (N = T + z) ∧ z ≤ padN T ∧ Aside0 (BAt .u8 W0 W0.heap.size wr v (LL ++ List.replicate z 0))) (fun v _ => match v with | .slice _ n _ => T + 64 - n | _ => 0)
      case atStart => exact ⟨0, _, _, T, rfl, Aside0.mk rfl, Nat.zero_le _, Aside0.mk (by rw [List.replicate_zero, List.append_nil]; exact HU2.out)⟩
      case round =>
        obtain ⟨z, a, c, N, rfl, HN, hz, HU⟩ := hrel
        by_cases hgo : z < padN T
        · have hpad : padN T ≤ 64 := by unfold padN; split <;> omega
          have hNb : N ≤ 140737488351232 + 128 := by have := HN.out; have := HTB.out; omega
          have hstop := pad_go hgo
          rw [← HN.out] at hstop
          by_cases h0 : N = 0
          · subst h0
            clear hstop
            go_wp2_with (first | ((with_reducible refine gate_builtin (b := .append) (xs := #[.tmp 67, .tmp 68]) rfl ?_); (try (refine gate_guard (by rfl) ?_; dsimp only)); at_builtin; refine app_row 5 1 infoU8b (by decide) _ rfl (.tmp 67) (.tmp 68) 51 51 rfl Tryd.underlying51 rfl (HU.out.alloc HU.out.below.size _) (by have := HU.out.below.size; simp; omega) _ 1 [0] rfl ?hS ?hL ?_; (case hS => exact one_src _); (case hL => rw [List.length_append, List.length_replicate, ← HT.out, ← HN.out]; omega); intro v2 w2 hU2; have HU2 := Aside0.mk hU2; obtain ⟨a2, c2, e2⟩ := hU2.shape; subst e2; clear hU2 HU))
            case roundEnd =>
              have hl : (LL ++ List.replicate z (0 : Int) ++ [0]).length = LL.length + (z + 1) := by rw [List.length_append, List.length_append, List.length_replicate]; rfl
              have hn : LL ++ List.replicate z (0 : Int) ++ [0] = LL ++ List.replicate (z + 1) 0 := by rw [List.append_assoc, List.replicate_succ']
              refine ⟨⟨z + 1, a2, c2, LL.length + (z + 1), rfl, Aside0.mk (by rw [← HT.out]), hgo, Aside0.mk ?_⟩, ?_⟩
              · have := HU2.out
                rw [hl] at this
                rw [← hn]
                exact this
              · have := HT.out
                have := HN.out
                simp
                omega
          · have h3 : (N = 0) = False := eq_false (by omega)
            have h1 : ((N : Int) == 0) = false := beq_eq_false_iff_ne.mpr (by omega)
            have h2 : ((N : Int) % 64 != 0) = true := bne_iff_ne.mpr (by omega)
            clear hstop h0
            go_wp2_with (first | ((with_reducible refine gate_builtin (b := .append) (xs := #[.tmp 67, .tmp 68]) rfl ?_); (try (refine gate_guard (by rfl) ?_; dsimp only)); at_builtin; refine app_row 5 1 infoU8b (by decide) _ rfl (.tmp 67) (.tmp 68) 51 51 rfl Tryd.underlying51 rfl (HU.out.alloc HU.out.below.size _) (by have := HU.out.below.size; simp; omega) _ 1 [0] rfl ?hS ?hL ?_; (case hS => exact one_src _); (case hL => rw [List.length_append, List.length_replicate, ← HT.out, ← HN.out]; omega); intro v2 w2 hU2; have HU2 := Aside0.mk hU2; obtain ⟨a2, c2, e2⟩ := hU2.shape; subst e2; clear hU2 HU))
            case roundEnd =>
              have hl : (LL ++ List.replicate z (0 : Int) ++ [0]).length = LL.length + (z + 1) := by rw [List.length_append, List.length_append, List.length_replicate]; rfl
              have hn : LL ++ List.replicate z (0 : Int) ++ [0] = LL ++ List.replicate (z + 1) 0 := by rw [List.append_assoc, List.replicate_succ']
              refine ⟨⟨z + 1, a2, c2, LL.length + (z + 1), rfl, Aside0.mk (by rw [← HT.out]), hgo, Aside0.mk ?_⟩, ?_⟩
              · have := HU2.out
                rw [hl] at this
                rw [← hn]
                exact this
              · have := HT.out
                have := HN.out
                simp
                omega
        · obtain ⟨e1, e2, e3⟩ := pad_end hz hgo
          rw [← HN.out] at e2 e3
          have h3 : (N = 0) = False := eq_false (by omega)
          have h1 : ((N : Int) == 0) = false := beq_eq_false_iff_ne.mpr (by omega)
          have h2 : ((N : Int) % 64 != 0) = false := bne_eq_false_iff_eq.mpr (by omega)
          have E := Aside0.mk (And.intro e1 (And.intro e2 e3))
          clear e1 e2 e3
          go_wp2_with fail
          go_meet
          obtain ⟨rfl, e2, e3⟩ := E.out
          exact ⟨a, c, N, rfl, Aside0.mk ⟨HN.out, e2, e3⟩, HU⟩
    case rest =>
      obtain ⟨a, c, N, rfl, HN, HU⟩ := hcut
      obtain ⟨ga, ca, ea, hga, hca, hac, hat⟩ := HU.out.ex
      have hal : (LL ++ List.replicate (padN T) (0 : Int)).length = N := by rw [List.length_append, List.length_replicate, ← HT.out, HN.out.1]
      rw [hal] at ea hca hac
      injection ea with ea1 ea2 ea3
      subst ea1
      subst ea3
      have HK1 := Aside0.mk (show K1 w wc gh (initL key.size) gf ga (LL ++ List.replicate (padN T) 0) from K1.of_ HK.out HU.out.below hga (by rw [hal]; exact hac))
      have HAL := Aside0.mk hal
      clear HK HU hga hca hac hat hal ea2
      obtain ⟨All, hAll⟩ : ∃ A, A = LL ++ List.replicate (padN T) (0 : Int) := ⟨_, rfl⟩
      rw [← hAll] at HK1 HAL
      have HALL := Aside0.mk hAll
      clear hAll
      go_upto_block 4 with fail
      obtain ⟨G, hG⟩ : ∃ G, G = refB (N / 64 + 2) (initL key.size) All T 0 := ⟨_, rfl⟩
      have HG := Aside0.mk hG
      clear hG
      have hNb : N ≤ 140737488355328 + 64 := by have h1 := HN.out.1; have h2 := HTB.out; have h3 : padN T ≤ 64 := by unfold padN; split <;> omega
                                                omega
      go_cut [] (fun wx => Aside0 (VAt wx gh G ∧ G.length = 8 ∧ Bk.KeepBut wc wx gh none))
      case first =>
        go_wp2_with fail
        go_loopw [10] (fun i wr => ∃ (F q : Nat) (H8 : List Int), i = .int .i64 F ∧ F ≤ N ∧ Aside0 (F % 64 = 0 ∧ N ≤ F + 64 * q ∧ refB q H8 (All.drop F) T F = G) ∧ Aside0 (VAt wr gh H8 ∧ H8.length = 8 ∧ Bk.KeepBut wc wr gh none)) (fun i _ => N - (intOf i).toNat)
        case atStart => exact ⟨0, N / 64 + 2, initL key.size, rfl, Nat.zero_le _, Aside0.mk ⟨rfl, by omega, by rw [List.drop_zero]; exact HG.out.symm⟩, Aside0.mk ⟨HK1.out.v, by simp [initL, firsts_len], Bk.KeepBut.refl _ _ _⟩⟩
        case round =>
          obtain ⟨F, q, H8, rfl, hF, HF, HV⟩ := hrel
          by_cases hlt : F < N
          · have hFI : (F : Int) < (N : Int) := by omega
            obtain ⟨z1, z2, z3⟩ := HF.out
            have h64 : F + 64 ≤ N := by have := HN.out.2.2; omega
            have HF64 := Aside0.mk h64
            have HZ := Aside0.mk (And.intro z1 (And.intro z2 z3))
            clear z1 z2 z3 h64
            go_upto_block 5 with fail
            refine m_round gf cf gh ch ga c N T F All H8 wr HF64.out (by omega) (by have := HN.out.1; omega) HAL.out (fun j hj => Bk.keep_cell HV.out.2.2 (HK1.out.a j (by rw [HAL.out]; exact hj)) HK1.out.ah) (all_range HALL.out HLL.out) (fun j hj => Bk.keep_cell HV.out.2.2 (HK1.out.f j hj) HK1.out.fh) HV.out.1 HV.out.2.1 (Nat.lt_of_lt_of_le HK1.out.gl HV.out.2.2.size) (fun c a a' w h e => And.intro (e.symm.trans (And.left h)) (And.right h)) ?_
            intro x11 x12 x13 x14 x15 x16 x17 x18 x19 x76 x77 x78 x79 x80 x81 x82 x83 x84 x85 x86 x87 x88 x89 x90 x91 x92 x93 x94 x95 x96 x97 x98 x99 x100 x101 x102 x103 x104 x105 x106 x107 x108 x109 x110 x111 x112 x113 x114 x115 x116 x117 x118 x119 x120 x121 x122 x123 x124 x125 x126 x127 x128 x129 x130 x131 x132 x133 x134 x135 x136 x137 x138 x139 x140 x141 x142 x143 x144 x145 x146 x147 x148 x149 x150 x151 x152 x153 x154 x155 x156 x157 x158 x159 x160 x161 x162 x163 x164 x165 x166 x167 x168 x169 x170 x171 x172 x173 x174 x175 x176 x177 x178 x179 x180 x181 x182 x183 x184 x185 x186 x187 x188 x189 x190 x191 x192 x193 x194 x195 x196 x197 x198 x199 x200 x201 x202 x203 x204 x205 x206 x207 x208 x209 x210 x211 x212 x213 x214 x215 x216 x217 x218 x219 x220 x221 x222 x223 x224 x225 x226 x227 x228 x229 x230 x231 x232 x233 x234 x235 x236 x237 x238 x239 x240 x241 x242 x243 x244 x245 x246 x247 x248 x249 x250 x251 x252 x253 x254 x255 x256 x257 x258 x259 x260 x261 x262 x263 x264 x265 x266 x267 x268 x269 x270 x271 x272 x273 x274 x275 x276 x277 x278 x279 x280 x281 x282 x283 x284 x285 x286 x287 x288 x289 x290 x291 x292 x293 x294 x295 x296 x297 w8 hv8 hk8
            have H9 := Aside0.mk (And.intro hv8 hk8)
            clear hv8 hk8
            go_wp2_with fail
            go_roundw
            case rel =>
              obtain ⟨z1, z2, z3⟩ := HZ.out
              obtain ⟨q, rfl⟩ : ∃ q', q = q' + 1 := ⟨q - 1, by omega⟩
              have hlen : (All.drop F).length = N - F := by rw [List.length_drop, HAL.out]
              have hne : All.drop F ≠ [] := fun e => by rw [e] at hlen; simp at hlen; omega
              rw [refB, if_neg hne, List.drop_drop, hlen, show decide (N - F ≤ 64) = decide (N ≤ F + 64) from decide_eq_decide.mpr (by omega)] at z3
              exact ⟨F + 64, q, _, rfl, HF64.out, Aside0.mk ⟨by omega, by omega, z3⟩, Aside0.mk ⟨H9.out.1, Bk.finL_len _ _, HV.out.2.2.trans H9.out.2⟩⟩
            case measure => simp [intOf]; omega
          · obtain rfl : F = N := by omega
            go_wp2_with fail
            go_meet
            have e : refB q H8 (All.drop F) T F = H8 := by
              rw [List.drop_eq_nil_of_le (by rw [HAL.out]; exact Nat.le_refl _)]
              cases q <;> simp [refB]
            obtain rfl : H8 = G := by rw [← HF.out.2.2, e]
            exact HV
      case rest =>
        obtain ⟨hv, hl8, hk9⟩ := hcut.out
        have HE := Aside0.mk (And.intro hv (And.intro hl8 hk9))
        have HB9 := Aside0.mk (hk9.below (B := w.heap.size) (HK1.out.below.size) (HK1.out.gw))
        have HGR := Aside0.mk (show ∀ j, 0 ≤ G.getD j 0 ∧ G.getD j 0 < 4294967296 from by rw [HG.out]; exact refB_range _ _ _ _ _ (init_range _))
        clear hv hl8 hk9 hcut
        go_upto_block 12 with fail
        refine m_out gh ch G _ HE.out.2.1 (fun j hj => HE.out.1.cell j (by rw [HE.out.2.1]; exact hj)) (fun j _ => HGR.out j) (fun c a a' w h e => And.intro (e.symm.trans (And.left h)) (And.right h)) ?_
        intro y21 y298 y299 y300 y301 y302 y303 y304 y305 y306 y307 y308 y309 y310 y311 y312 y313 y314 y315 y316 y317 y318 y319 y320 y321 y322 y323 y324 y325 y326 y327 y328 y329 y330 go co w10 hc hb
        have hcv := string_of_reads (P := Tryd.prog) Tryd.underlying51 Tryd.underlying5 Tryd.underlying9 (c := co) (show ReadsInt w10 .u8 (some ⟨go, 0, none⟩) 32 (Bk.outL G) from ⟨by rw [Bk.outL_len, HE.out.2.1], by decide, fun _ => ⟨_, rfl, fun j hj => by rw [add_plain]; exact hc j hj⟩⟩)
        have HB10 := Aside0.mk hb
        clear hc hb
        go_wp2_with fail
        go_ret2
        refine ⟨?_, ?_⟩
        · have hb : Bk.keyL key ++ Bk.strL s = LL := by
            rw [HLL.out]
            unfold Bk.keyL Bk.strL bytesOf
            by_cases h0 : key.size = 0
            · rw [if_pos h0, HM2.out h0]
              have : key.data.toList = [] := List.eq_nil_of_length_eq_zero (by rw [data_length]; exact h0)
              rw [this]
              simp
            · rw [if_neg h0, show 64 - key.size = m by have := HM1.out (by omega); omega]
          have hd := ref_digest (initL key.size) LL (padN T) (N / 64) (by rw [← HT.out, ← HN.out.1]; exact HN.out.2.2) (by rw [← HT.out, ← HN.out.1]; exact HN.out.2.1) (by rw [← HT.out]; unfold padN; split <;> omega) (by rw [← HT.out]; have := HN.out.1; have := HN.out.2.2; omega) (by rw [← HT.out]; have := HTB.out; omega)
          rw [← HALL.out, ← HT.out, ← HG.out] at hd
          unfold Bk.blakeKeyed
          rw [hb, hd]
          rfl
        · exact (HK1.out.below.trans HB9.out).trans (HB10.out.mono (Nat.le_trans HK1.out.below.size HB9.out.size))

end Go.Proofs.YteplphpbpaojjaaDoor.Rf5
namespace Go.Proofs.YteplphpbpaojjaaDoor.Rf5
open Go.RowKit Go.Proofs.YteplphpbpaojjaaDoorW.PrintWords Go.Proofs.YteplphpbpaojjaaDoorW.PrintLast Go.Proofs.YteplphpbpaojjaaDoorW.PrintMore
open Go.Proofs.YteplphpbpaojjaaDoor.Bk (blakeKeyed blakeSum)
set_option linter.unusedVariables false
set_option linter.unusedSimpArgs false
set_option maxHeartbeats 2000000 in
set_option maxRecDepth 100000 in
theorem ref_sum (s : ByteArray) (hs : s.size ≤ 140737488351232) (w : World) :
    Calls Tryd.prog 38 #[.string s] w fun e w' => e = .returned (.string (blakeSum s)) ∧ Below w.heap.size w w' := by
  go_enter Tryd.func38, Tryd.ntmps38
  go_wp2_with fail
  refine (keyed_walk ⟨#[]⟩ s (by decide) hs _).mono ?_
  rintro e w1 ⟨rfl, hB⟩
  have HB := Aside0.mk hB
  clear hB
  go_wp2_with fail
  go_ret
  exact ⟨rfl, HB.out⟩
end Go.Proofs.YteplphpbpaojjaaDoor.Rf5
