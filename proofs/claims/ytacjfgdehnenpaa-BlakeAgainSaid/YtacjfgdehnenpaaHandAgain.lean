import Derived.Test.YtacjfgdehnenpaaProg
import Derived.Below
import Derived.Deep.Draws
import Derived.Deep.AppendLies
import Derived.Maps.AppendAt
import Derived.OwnWalk
import Derived.Laws.BytesArg
import Derived.Laws.MakeOwn
import Derived.Laws.OwnMore
import Derived.Deep.OwnRows
import Derived.Tactics
import Derived.Lib.ConvBytes
import Derived.Laws.Slices
import Derived.WalkKit
import Derived.KernelRfl
import Derived.RowKit3
import Derived.Deep.LoopGhost
import Derived.Deep.QuietTactic
import Derived.BigQuiet
import Derived.WideLaws
import Derived.Deep.DeepCutAuto
import Derived.Deep.CutBlock
import Derived.Deep.RegionHeld3
import Derived.Test.YtacjfgdehnenpaaWInvWords
import Derived.Laws.Rows
import Derived.Lib.AppendStr
import Derived.ArgAppend
import Derived.Laws.IdiomCopy
import Derived.OrdersHeld
import Derived.Laws.BitsLemmas
import Derived.RowKit
import Derived.Test.YtacjfgdehnenpaaWWords
import Derived.Test.YtacjfgdehnenpaaWLast
import Derived.Test.YtacjfgdehnenpaaWMore
import Derived.Test.YtacjfgdehnenpaaHandPieces
import Derived.OpenShut
import Derived.Deep.RegionHeld3
import Derived.Test.YtacjfgdehnenpaaWInvWords
namespace Go.Proofs.Ytacjfgdehnenpaa.Bk
open Go.RowKit Go.Proofs.YtacjfgdehnenpaaW.PrintWords Go.Proofs.YtacjfgdehnenpaaW.PrintLast Go.Proofs.YtacjfgdehnenpaaW.PrintMore Go.Proofs.Ytacjfgdehnenpaa.PBlake
open Go.Proofs.Ytacjfgdehnenpaa.Pb (nil_app app_nil app_assoc wrap_id tl_nil)
set_option linter.unusedVariables false
set_option linter.unusedSimpArgs false
/-- A slice of pairs of texts. -/
structure PairsAt (w : World) (A : Option Addr) (L : List (ByteArray × ByteArray)) : Prop where
  len : L.length ≤ 9223372036854775807
  at_ : ∀ i p, L[i]? = some p → ∃ ad, A = some ad ∧ w.cell? (ad.add (i * 2)) = some (.string p.1) ∧ w.cell? ⟨(ad.add (i * 2)).block, (ad.add (i * 2)).off + 1, none⟩ = some (.string p.2)
theorem infoS : (Try.prog.info? 9).map (fun i => (i.zero, i.size, i.bytes)) = some (some (.string ⟨#[]⟩), 1, 16) := by kernel_rfl
/-- What blake.Keyed tells. -/
def kS (p : ByteArray × ByteArray) : ByteArray := if p.1.size ≤ 32 then blakeKeyed p.1 p.2 else ⟨#[]⟩
def kE (p : ByteArray × ByteArray) : Int := if p.1.size ≤ 32 then 0 else 1
theorem keyed_any (p : ByteArray × ByteArray) (h1 : p.1.size ≤ 9223372036854775807) (h2 : p.2.size ≤ 140737488351232) (w : World) : Calls Try.prog 14 #[.string p.1, .string p.2] w fun e w' => e = .returned (.tuple #[.string (kS p), .int .i64 (kE p)]) ∧ Below w.heap.size w w' := by
  unfold kS kE
  by_cases h : p.1.size ≤ 32
  · rw [if_pos h, if_pos h]
    exact blake_keyed p.1 p.2 h h2 w
  · rw [if_neg h, if_neg h]
    exact (blake_keyed_long p.1 p.2 h h1 w).mono fun _ _ ⟨he, hw⟩ => ⟨he, hw ▸ Below.refl _ _⟩
theorem after_draw {w1 w2 : World} {p : Addr} {v : Value} (h : Below w1.drew.heap.size w1.drew w2) (hp : w1.cell? p = some v) : w2.cell? p = some v := by
  have hlt : p.block < w1.drew.heap.size := World.block_lt_of_cell? w1 _ hp
  rw [h.cell hlt]
  exact hp
theorem below_draw {w W W2 : World} (h : Below w.heap.size w W) (k : Below W.drew.heap.size W.drew W2) : Below w.heap.size w W2 := (below_drew h).trans (k.mono h.size)
theorem R_draw {α : Type} {d : Kd α} {e base : Nat} {ok : Nat → Prop} {v : Value} {xs : List α} {W W2 : World} (h : Kd.R d e W base ok v xs) (k : Below W.drew.heap.size W.drew W2) : Kd.R d e W2 base ok v xs := Kd.R_below (Kd.R_drew h) k
theorem own_text {W : World} {e base : Nat} {ok : Nat → Prop} {v : Value} {xs : List ByteArray} (h : Kd.R Kd.string e W base ok v xs) (i : Nat) (hi : i < xs.length) : ∃ ad c, v = .slice (some ad) xs.length c ∧ W.cell? (ad.add i) = some (.string (xs.getD i ⟨#[]⟩)) := by
  obtain ⟨ad, c, rfl⟩ := Kd.R_slice1 h (by omega)
  obtain ⟨cs, h1, h2, h3⟩ := Kd.R_get h ⟨#[]⟩ (i : Int) (by omega) (by omega)
  refine ⟨ad, c, rfl, ?_⟩
  have e : cs = [.string (xs.getD i ⟨#[]⟩)] := h2
  rw [e] at h3
  have h4 := h3 0 _ rfl
  rw [Int.toNat_natCast, show Kd.string.sz = 1 from rfl, Nat.mul_one, Nat.add_zero] at h4
  exact h4
set_option maxHeartbeats 4000000 in
set_option maxRecDepth 100000 in
theorem again_walk (A : Option Addr) (c : Nat) (L : List (ByteArray × ByteArray)) (w : World) (hL : PairsAt w A L) (hc : L.length ≤ c) :
    Calls Try.prog 8 #[.slice A L.length c] w fun e w' => e = .returned (.bool true) ∧ Below w.heap.size w w' := by
  have HL := Aside0.mk hL
  have hlen := hL.len
  clear hL hc
  by_cases hbig : 12 < L.length
  · have d0 : decide ((12 : Int) < (L.length : Int)) = true := decide_eq_true (by omega)
    go_enter Try.func8, Try.ntmps8
    go_wp2_with fail
    refine (works_calls _).mono ?_
    rintro e w1 ⟨rfl, hB⟩
    have HB := Aside0.mk hB
    clear hB
    go_wp2_with fail
    refine (works_calls _).mono ?_
    rintro e w2 ⟨rfl, hB⟩
    have HB2 := Aside0.mk (HB.out.trans (hB.mono HB.out.size))
    clear hB
    go_wp2_with fail
    go_ret
    exact ⟨rfl, HB2.out⟩
  have d0 : decide ((12 : Int) < (L.length : Int)) = false := decide_eq_false (by omega)
  go_enter Try.func8, Try.ntmps8
  go_wp2_with fail
  refine (works_calls _).mono ?_
  rintro e w1 ⟨rfl, hB⟩
  have HB := Aside0.mk hB
  clear hB
  go_wp2_with fail
  go_loopw [3, 4] (fun v i wr => ∃ x : Nat, x ≤ L.length ∧ i = .int .i64 x ∧ Aside0 (Kd.R Kd.string 9 wr w.heap.size (fun _ => True) v ((L.take x).map kS)) ∧ Aside0 (∀ p ∈ L.take x, p.1.size ≤ 40 ∧ p.2.size ≤ 1000) ∧ Aside0 (Below w.heap.size w wr)) (fun _ i _ => L.length - (intOf i).toNat)
  case atStart => exact ⟨0, Nat.zero_le _, rfl, Aside0.mk (Kd.R_nil _ _ _ _ _), Aside0.mk (by simp), HB⟩
  case round =>
    obtain ⟨x, hx, rfl, HR, HS, HB3⟩ := hrel
    by_cases hlt : x < L.length
    · obtain ⟨ad, eA, hc0, hc1⟩ := HL.out.at_ x _ (List.getElem?_eq_getElem hlt)
      cases eA
      have hb0 := World.block_lt_of_cell? w _ hc0
      replace hc0 := (HB3.out.cell hb0).trans hc0
      replace hc1 := (HB3.out.cell (World.block_lt_of_cell? w _ hc1)).trans hc1
      obtain ⟨p, hp⟩ : ∃ p, p = L[x] := ⟨_, rfl⟩
      have HP := Aside0.mk hp
      rw [← hp] at hc0 hc1
      clear hp hb0
      by_cases g1 : 40 < p.1.size
      · have d1 : decide ((40 : Int) < (p.1.size : Int)) = true := decide_eq_true (by omega)
        go_wp2_with fail
        go_ret
        exact ⟨rfl, HB3.out⟩
      have d1 : decide ((40 : Int) < (p.1.size : Int)) = false := decide_eq_false (by omega)
      by_cases g2 : 1000 < p.2.size
      · have d2 : decide ((1000 : Int) < (p.2.size : Int)) = true := decide_eq_true (by omega)
        go_wp2_with fail
        go_ret
        exact ⟨rfl, HB3.out⟩
      have d2 : decide ((1000 : Int) < (p.2.size : Int)) = false := decide_eq_false (by omega)
      have hk1 := Aside0.mk (show p.1.size ≤ 9223372036854775807 by omega)
      have hk2 := Aside0.mk (show p.2.size ≤ 140737488351232 by omega)
      have HS2 := Aside0.mk (show p.1.size ≤ 40 ∧ p.2.size ≤ 1000 by omega)
      clear g1 g2
      go_wp2_with fail
      go_region_held3 (fun w' => w'.cell? (ad.add (x * 2)) = some (.string p.1) ∧ w'.cell? ⟨(ad.add (x * 2)).block, (ad.add (x * 2)).off + 1, none⟩ = some (.string p.2)) (first | exact ⟨‹_›, ‹_›⟩ | go_keep) (first | (go_at_call 14; refine (keyed_any p hk1.out hk2.out _).mono ?_; rintro e w5 ⟨rfl, hB5⟩; have k0 := after_draw hB5 hc0; have k1 := after_draw hB5 hc1; have HB5 := Aside0.mk (below_draw HB3.out hB5); have HR5 := Aside0.mk (R_draw HR.out hB5); clear hB5))
      have hTK := Aside0.mk (show (L.take (x + 1)).map kS = (L.take x).map kS ++ [kS p] by rw [List.take_succ_eq_append_getElem hlt, List.map_append, ← HP.out]; rfl)
      have hLN := Aside0.mk (show ((L.take x).map kS).length ≤ 12 by rw [List.length_map, List.length_take]; omega)
      have HS3 := Aside0.mk (show ∀ q ∈ L.take (x + 1), q.1.size ≤ 40 ∧ q.2.size ≤ 1000 by
        intro q hq
        rw [List.take_succ_eq_append_getElem hlt, List.mem_append, List.mem_singleton] at hq
        rcases hq with hq | hq
        · exact HS.out q hq
        · rw [hq, ← HP.out]; exact HS2.out)
      clear k0 k1 hc0 hc1 d1 d2 HS HS2 HR HB3
      go_wp2_with (first | ((with_reducible refine gate_builtin (b := .append) (xs := #[.tmp 55, .tmp 57]) rfl ?_); at_builtin; refine Kd.R_append Kd.string (w0 := w) w.heap.size rfl (.tmp 55) (.tmp 57) 22 9 (.string ⟨#[]⟩) 16 rfl Try.underlying22 infoS rfl (by decide) (by decide) u3 ((L.take x).map kS) (kS p) [.string (kS p)] (fun _ => True) (fun _ => False) rfl rfl ?aP (fun _ hk => hk.elim) ?aF ?aO ?aB ?aS ?aL ?_; (case aP => exact rfl); (case aB => exact HB5.out); (case aF => exact (fun _ _ => trivial)); (case aO => exact HR5.out); (case aS => exact HB5.out.size); (case aL => have := hLN.out; omega); intro v1 w6 ho hb hg hat; have HR6 := Aside0.mk ho; have HB6 := Aside0.mk hb; clear ho hb hg hat))
      go_roundw
      case rel => exact ⟨x + 1, by omega, by go_num, Aside0.mk (by rw [hTK.out]; exact HR6.out), HS3, HB6⟩
      case measure => simp [intOf]; omega
    · obtain rfl : x = L.length := by omega
      go_wp2_with fail
      rw [List.take_length] at HR HS
      go_loopw [7] (fun i wr => ∃ y : Int, -1 ≤ y ∧ y < L.length ∧ i = .int .i64 y ∧ Aside0 (Kd.R Kd.string 9 wr w.heap.size (fun _ => True) u3 (L.map kS)) ∧ Aside0 (Below w.heap.size w wr)) (fun i _ => (intOf i + 1).toNat)
      case atStart => exact ⟨(L.length : Int) - 1, by omega, by omega, rfl, HR, HB3⟩
      case round =>
        obtain ⟨y, hy0, hy1, rfl, HR4, HB4⟩ := hrel
        by_cases hy : 0 ≤ y
        · obtain ⟨x, rfl⟩ : ∃ x : Nat, y = x := ⟨y.toNat, by omega⟩
          have hlt : x < L.length := by omega
          obtain ⟨ad, eA, hc0, hc1⟩ := HL.out.at_ x _ (List.getElem?_eq_getElem hlt)
          cases eA
          have hb0 := World.block_lt_of_cell? w _ hc0
          replace hc0 := (HB4.out.cell hb0).trans hc0
          replace hc1 := (HB4.out.cell (World.block_lt_of_cell? w _ hc1)).trans hc1
          obtain ⟨p1, p2, hp⟩ : ∃ p1 p2, (p1, p2) = L[x] := ⟨_, _, rfl⟩
          obtain ⟨b1, b2⟩ := HS.out (p1, p2) (by rw [hp]; exact List.getElem_mem hlt)
          obtain ⟨ad2, c2, e2, hc2⟩ := own_text HR4.out x (by rw [List.length_map]; exact hlt)
          rw [List.getD_eq_getElem?_getD, List.getElem?_map, List.getElem?_eq_getElem hlt, ← hp] at hc2
          replace hc2 : wr.cell? (ad2.add x) = some (.string (kS (p1, p2))) := hc2
          rw [← hp] at hc0 hc1
          have hk1 := Aside0.mk (show p1.size ≤ 9223372036854775807 from Nat.le_trans b1 (by decide))
          have hk2 := Aside0.mk (show p2.size ≤ 140737488351232 from Nat.le_trans b2 (by decide))
          clear hp hb0 b1 b2
          rw [List.length_map] at e2
          subst e2
          go_wp2_with fail
          go_region_held3 (fun w' => w'.cell? (ad.add (x * 2)) = some (.string p1) ∧ w'.cell? ⟨(ad.add (x * 2)).block, (ad.add (x * 2)).off + 1, none⟩ = some (.string p2)) (first | exact ⟨‹_›, ‹_›⟩ | go_keep) (first | (go_at_call 14; refine (keyed_any (p1, p2) hk1.out hk2.out _).mono ?_; rintro e w5 ⟨rfl, hB5⟩; have k0 := after_draw hB5 hc0; have k1 := after_draw hB5 hc1; have k2 := after_draw hB5 hc2; have HB5 := Aside0.mk (below_draw HB4.out hB5); have HR5 := Aside0.mk (R_draw HR4.out hB5); clear hB5))
          clear hc0 hc1 hc2
          by_cases h32 : p1.size ≤ 32
          · have hE : kE (p1, p2) = 0 := if_pos h32
            have d3 : decide ((p1.size : Int) ≤ 32) = true := decide_eq_true (by omega)
            clear h32
            go_wp2_with fail
            refine (new_ht _).mono ?_
            rintro e w6 ⟨g, rfl, hg, hlg, hB⟩
            have HG := Aside0.mk hg
            have HLG := Aside0.mk (Nat.le_trans HB5.out.size hlg)
            have HB6 := Aside0.mk (HB5.out.trans (hB.mono HB5.out.size))
            have HR6 := Aside0.mk (Kd.R_below (Kd.R_mono (ok' := fun k => k < w5.heap.size) (Kd.R_bound HR5.out) (fun _ hk => hk.2.2.1)) hB)
            have HG5 := Aside0.mk hlg
            have m0 := (hB.cell (World.block_lt_of_cell? _ _ k0)).trans k0
            have m1 := (hB.cell (World.block_lt_of_cell? _ _ k1)).trans k1
            have mb := Aside0.mk (Nat.lt_of_lt_of_le (World.block_lt_of_cell? _ _ k0) hlg)
            clear hg hlg hB k0 k1 k2 HB5 HR5 HR4 HB4
            go_wp2_with fail
            refine (add_ht g ⟨#[]⟩ p2 _ HG.out hk2.out).mono ?_
            rintro e w7 ⟨rfl, h1, h2⟩
            rw [nil_app] at h1
            have HG7 := Aside0.mk h1
            have HB7 := Aside0.mk (HB6.out.trans (h2.below HB6.out.size HLG.out))
            have q0 : w7.cell? (ad.add (x * 2)) = some (.string p1) := keep_cell h2 m0 (Nat.ne_of_lt mb.out)
            have HR7 := Aside0.mk (Kd.R_mono (ok' := fun _ => True) (Kd.R_step HR6.out (fun k hk hl => h2.block k hl (by have := HG5.out; omega) (by simp))) (fun _ _ => trivial))
            clear h1 h2 HG m0 m1 HB6 HR6
            by_cases h0 : p1 = ⟨#[]⟩
            · have t1 : (p1.toList = ([] : List UInt8)) = True := eq_true ((tl_nil p1).mpr h0)
              have hK : kS (p1, p2) = blakeSum p2 := by rw [h0]; exact keyed_none p2
              clear h0
              go_wp2_with fail
              refine (sum_ht g p2 _ HG7.out).mono ?_
              rintro e w8 ⟨rfl, hB⟩
              have HB8 := Aside0.mk (HB7.out.trans (hB.mono HB7.out.size))
              have HR8 := Aside0.mk (Kd.R_below HR7.out hB)
              clear hB
              go_wp2_with fail
              go_roundw
              case rel => exact ⟨(x : Int) - 1, by omega, by omega, rfl, HR8, HB8⟩
              case measure => first | (simp [intOf]; done) | (simp [intOf]; omega)
            · have t1 : (p1.toList = ([] : List UInt8)) = False := eq_false (fun e => h0 ((tl_nil p1).mp e))
              clear h0
              go_wp2_with fail
              go_roundw
              case rel => exact ⟨(x : Int) - 1, by omega, by omega, rfl, HR7, HB7⟩
              case measure => first | (simp [intOf]; done) | (simp [intOf]; omega)
          · have hE : kE (p1, p2) = 1 := if_neg h32
            have d3 : decide ((p1.size : Int) ≤ 32) = false := decide_eq_false (by omega)
            have hne := Aside0.mk (show ¬ p1 = ⟨#[]⟩ from fun e => h32 (by rw [e]; decide))
            clear h32
            go_wp2_with fail
            refine (new_ht _).mono ?_
            rintro e w6 ⟨g, rfl, hg, hlg, hB⟩
            have HG := Aside0.mk hg
            have HLG := Aside0.mk (Nat.le_trans HB5.out.size hlg)
            have HB6 := Aside0.mk (HB5.out.trans (hB.mono HB5.out.size))
            have HR6 := Aside0.mk (Kd.R_below (Kd.R_mono (ok' := fun k => k < w5.heap.size) (Kd.R_bound HR5.out) (fun _ hk => hk.2.2.1)) hB)
            have HG5 := Aside0.mk hlg
            have m0 := (hB.cell (World.block_lt_of_cell? _ _ k0)).trans k0
            have m1 := (hB.cell (World.block_lt_of_cell? _ _ k1)).trans k1
            have mb := Aside0.mk (Nat.lt_of_lt_of_le (World.block_lt_of_cell? _ _ k0) hlg)
            clear hg hlg hB k0 k1 k2 HB5 HR5 HR4 HB4
            go_wp2_with fail
            refine (add_ht g ⟨#[]⟩ p2 _ HG.out hk2.out).mono ?_
            rintro e w7 ⟨rfl, h1, h2⟩
            rw [nil_app] at h1
            have HG7 := Aside0.mk h1
            have HB7 := Aside0.mk (HB6.out.trans (h2.below HB6.out.size HLG.out))
            have q0 : w7.cell? (ad.add (x * 2)) = some (.string p1) := keep_cell h2 m0 (Nat.ne_of_lt mb.out)
            have HR7 := Aside0.mk (Kd.R_mono (ok' := fun _ => True) (Kd.R_step HR6.out (fun k hk hl => h2.block k hl (by have := HG5.out; omega) (by simp))) (fun _ _ => trivial))
            clear h1 h2 HG m0 m1 HB6 HR6
            by_cases h0 : p1 = ⟨#[]⟩
            · have t1 : (p1.toList = ([] : List UInt8)) = True := eq_true ((tl_nil p1).mpr h0)
              have hK : kS (p1, p2) = blakeSum p2 := by rw [h0]; exact keyed_none p2
              clear h0
              go_wp2_with fail
              refine (sum_ht g p2 _ HG7.out).mono ?_
              rintro e w8 ⟨rfl, hB⟩
              have HB8 := Aside0.mk (HB7.out.trans (hB.mono HB7.out.size))
              have HR8 := Aside0.mk (Kd.R_below HR7.out hB)
              clear hB
              go_wp2_with fail
              go_roundw
              case rel => exact ⟨(x : Int) - 1, by omega, by omega, rfl, HR8, HB8⟩
              case measure => first | (simp [intOf]; done) | (simp [intOf]; omega)
            · have t1 : (p1.toList = ([] : List UInt8)) = False := eq_false (fun e => h0 ((tl_nil p1).mp e))
              clear h0
              go_wp2_with fail
              go_roundw
              case rel => exact ⟨(x : Int) - 1, by omega, by omega, rfl, HR7, HB7⟩
              case measure => first | (simp [intOf]; done) | (simp [intOf]; omega)
        · obtain rfl : y = -1 := by omega
          go_wp2_with fail
          go_ret
          exact ⟨rfl, HB4.out⟩
end Go.Proofs.Ytacjfgdehnenpaa.Bk
