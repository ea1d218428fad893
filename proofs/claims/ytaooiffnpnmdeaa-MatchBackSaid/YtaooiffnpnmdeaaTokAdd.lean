import Derived.Test.YtaooiffnpnmdeaaTokDist
import Derived.Test.YtaooiffnpnmdeaaTokDistA
import Derived.Test.YtaooiffnpnmdeaaTokDistB
import Derived.Deep.RegionLaw
import Derived.Deep.Cut
import Derived.LoopTactic
import Derived.Deep.CutRange
import Derived.IntWalk
import Derived.Test.YtaooiffnpnmdeaaWInvWords
namespace Go.Proofs.Ytaooiffnpnmdeaa.PIx
open Go.RowKit Go.Proofs.YtaooiffnpnmdeaaW.PrintWords Go.Proofs.YtaooiffnpnmdeaaW.PrintLast Go.Proofs.YtaooiffnpnmdeaaW.PrintMore
attribute [local go_sem] max2_int min2_int max_two min_two max_three min_three max_four min_four
attribute [local go_sem high] eqTok
set_option linter.unusedVariables false
set_option linter.unusedSimpArgs false
def rowN (a b c d s : Int) : Int := if s = 0 then a else if s = 1 then b else if s = 2 then c else d
/-- A token's distance, and whether it may be. -/
def dX (a b c d k x s : Int) : Int := if k = 2 then x else rowN a b c d s
def dOk (a b c d : Int) (n : Nat) (k bb l x s : Int) : Bool := if k = 2 then decide (bb = 0 ∧ s = 0) && okD x l n else if k = 3 then decide (bb = 0 ∧ x = 0 ∧ 0 ≤ s ∧ s < 4) && okD (rowN a b c d s) l n else false
/-- What dist leaves. -/
def Told (w : World) (x : Int) (ok : Bool) (e : Ending) (w' : World) : Prop := ∃ y, e = .returned (.tuple #[.int .i64 y, .bool ok]) ∧ (ok = true → y = x) ∧ Below w.heap.size w w'
theorem told_of {P : Program} {f : FuncId} {args : Array Value} {w : World} {x y : Int} {ok ok' : Bool} (h : Calls P f args w fun e w' => e = .returned (.tuple #[.int .i64 y, .bool ok']) ∧ Below w.heap.size w w') (h1 : ok = ok') (h2 : ok' = true → y = x) : Calls P f args w (Told w x ok) := by
  subst h1
  exact h.mono fun e w' ⟨he, hb⟩ => ⟨y, he, h2, hb⟩
theorem okD_no {x l : Int} {n : Nat} (h : ¬ (3 ≤ l ∧ l ≤ 258 ∧ 1 ≤ x ∧ x ≤ 32768 ∧ x ≤ (n : Int))) : okD x l n = false := decide_eq_false h
theorem okD_yes {x l : Int} {n : Nat} (h : 3 ≤ l ∧ l ≤ 258 ∧ 1 ≤ x ∧ x ≤ 32768 ∧ x ≤ (n : Int)) : okD x l n = true := decide_eq_true h
theorem dist_calls (A : Option Addr) (n cap : Nat) (a b c d k bb l x s : Int) (g : Nat) (w : World) (hm : IsMk w g (.slice A n cap) a b c d) :
    Calls Try.prog 32 #[.pointer (some ⟨g, 0, none⟩), tokV k bb l x s] w (Told w (dX a b c d k x s) (dOk a b c d n k bb l x s)) := by
  by_cases hk2 : k = 2
  · subst hk2
    have hX : dX a b c d 2 x s = x := rfl
    have hO : dOk a b c d n 2 bb l x s = (decide (bb = 0 ∧ s = 0) && okD x l n) := rfl
    rw [hX, hO]
    by_cases hb : bb = 0
    · subst hb
      by_cases hs : s = 0
      · subst hs
        rw [decide_eq_true (⟨rfl, rfl⟩ : (0 : Int) = 0 ∧ (0 : Int) = 0), Bool.true_and]
        by_cases q1 : 3 ≤ l
        · by_cases q2 : l ≤ 258
          · by_cases q3 : 1 ≤ x
            · by_cases q4 : x ≤ 32768 ∧ x ≤ (n : Int)
              · exact told_of (dist_m4 A n cap a b c d l x g w hm q1 q2 q3 q4.1 q4.2) (okD_yes (by omega)) (fun _ => rfl)
              · exact told_of (dist_m3 A n cap a b c d l x g w hm q1 q2 q3 q4) (okD_no (by omega)) (fun _ => rfl)
            · exact told_of (dist_m2 A n cap a b c d l x g w hm q1 q2 q3) (okD_no (by omega)) (fun _ => rfl)
          · exact told_of (dist_m1 A n cap a b c d l x g w hm q1 q2) (okD_no (by omega)) (fun _ => rfl)
        · exact told_of (dist_m0 A n cap a b c d l x g w hm q1) (okD_no (by omega)) (fun _ => rfl)
      · exact told_of (dist_m_slot A n cap a b c d l x s g w hm hs) (by rw [decide_eq_false (by omega), Bool.false_and]) (fun h => by cases h)
    · exact told_of (dist_m_byte A n cap a b c d bb l x s g w hm hb) (by rw [decide_eq_false (by omega), Bool.false_and]) (fun h => by cases h)
  · by_cases hk3 : k = 3
    · subst hk3
      have hX : dX a b c d 3 x s = rowN a b c d s := rfl
      have hO : dOk a b c d n 3 bb l x s = (decide (bb = 0 ∧ x = 0 ∧ 0 ≤ s ∧ s < 4) && okD (rowN a b c d s) l n) := rfl
      rw [hX, hO]
      by_cases hb : bb = 0
      · subst hb
        by_cases hx : x = 0
        · subst hx
          by_cases h0 : 0 ≤ s
          · by_cases h4 : s < 4
            · rw [decide_eq_true (⟨rfl, rfl, h0, h4⟩ : (0 : Int) = 0 ∧ (0 : Int) = 0 ∧ 0 ≤ s ∧ s < 4), Bool.true_and]
              have hs : s = 0 ∨ s = 1 ∨ s = 2 ∨ s = 3 := by omega
              rcases hs with rfl | rfl | rfl | rfl
              · have hr : rowN a b c d 0 = a := rfl
                rw [hr]
                by_cases q1 : 3 ≤ l
                · by_cases q2 : l ≤ 258
                  · by_cases q3 : 1 ≤ a
                    · by_cases q4 : a ≤ 32768 ∧ a ≤ (n : Int)
                      · exact told_of (dist_a04 A n cap a b c d l g w hm q1 q2 q3 q4.1 q4.2) (okD_yes (by omega)) (fun _ => rfl)
                      · exact told_of (dist_a03 A n cap a b c d l g w hm q1 q2 q3 q4) (okD_no (by omega)) (fun _ => rfl)
                    · exact told_of (dist_a02 A n cap a b c d l g w hm q1 q2 q3) (okD_no (by omega)) (fun _ => rfl)
                  · exact told_of (dist_a01 A n cap a b c d l g w hm q1 q2) (okD_no (by omega)) (fun _ => rfl)
                · exact told_of (dist_a00 A n cap a b c d l g w hm q1) (okD_no (by omega)) (fun _ => rfl)
              · have hr : rowN a b c d 1 = b := rfl
                rw [hr]
                by_cases q1 : 3 ≤ l
                · by_cases q2 : l ≤ 258
                  · by_cases q3 : 1 ≤ b
                    · by_cases q4 : b ≤ 32768 ∧ b ≤ (n : Int)
                      · exact told_of (dist_a14 A n cap a b c d l g w hm q1 q2 q3 q4.1 q4.2) (okD_yes (by omega)) (fun _ => rfl)
                      · exact told_of (dist_a13 A n cap a b c d l g w hm q1 q2 q3 q4) (okD_no (by omega)) (fun _ => rfl)
                    · exact told_of (dist_a12 A n cap a b c d l g w hm q1 q2 q3) (okD_no (by omega)) (fun _ => rfl)
                  · exact told_of (dist_a11 A n cap a b c d l g w hm q1 q2) (okD_no (by omega)) (fun _ => rfl)
                · exact told_of (dist_a10 A n cap a b c d l g w hm q1) (okD_no (by omega)) (fun _ => rfl)
              · have hr : rowN a b c d 2 = c := rfl
                rw [hr]
                by_cases q1 : 3 ≤ l
                · by_cases q2 : l ≤ 258
                  · by_cases q3 : 1 ≤ c
                    · by_cases q4 : c ≤ 32768 ∧ c ≤ (n : Int)
                      · exact told_of (dist_a24 A n cap a b c d l g w hm q1 q2 q3 q4.1 q4.2) (okD_yes (by omega)) (fun _ => rfl)
                      · exact told_of (dist_a23 A n cap a b c d l g w hm q1 q2 q3 q4) (okD_no (by omega)) (fun _ => rfl)
                    · exact told_of (dist_a22 A n cap a b c d l g w hm q1 q2 q3) (okD_no (by omega)) (fun _ => rfl)
                  · exact told_of (dist_a21 A n cap a b c d l g w hm q1 q2) (okD_no (by omega)) (fun _ => rfl)
                · exact told_of (dist_a20 A n cap a b c d l g w hm q1) (okD_no (by omega)) (fun _ => rfl)
              · have hr : rowN a b c d 3 = d := rfl
                rw [hr]
                by_cases q1 : 3 ≤ l
                · by_cases q2 : l ≤ 258
                  · by_cases q3 : 1 ≤ d
                    · by_cases q4 : d ≤ 32768 ∧ d ≤ (n : Int)
                      · exact told_of (dist_a34 A n cap a b c d l g w hm q1 q2 q3 q4.1 q4.2) (okD_yes (by omega)) (fun _ => rfl)
                      · exact told_of (dist_a33 A n cap a b c d l g w hm q1 q2 q3 q4) (okD_no (by omega)) (fun _ => rfl)
                    · exact told_of (dist_a32 A n cap a b c d l g w hm q1 q2 q3) (okD_no (by omega)) (fun _ => rfl)
                  · exact told_of (dist_a31 A n cap a b c d l g w hm q1 q2) (okD_no (by omega)) (fun _ => rfl)
                · exact told_of (dist_a30 A n cap a b c d l g w hm q1) (okD_no (by omega)) (fun _ => rfl)
            · exact told_of (dist_a_high A n cap a b c d l s g w hm h0 h4) (by rw [decide_eq_false (by omega), Bool.false_and]) (fun h => by cases h)
          · exact told_of (dist_a_low A n cap a b c d l s g w hm h0) (by rw [decide_eq_false (by omega), Bool.false_and]) (fun h => by cases h)
        · exact told_of (dist_a_dist A n cap a b c d l x s g w hm hx) (by rw [decide_eq_false (by omega), Bool.false_and]) (fun h => by cases h)
      · exact told_of (dist_a_byte A n cap a b c d bb l x s g w hm hb) (by rw [decide_eq_false (by omega), Bool.false_and]) (fun h => by cases h)
    · exact told_of (dist_none A n cap a b c d k bb l x s g w hm hk2 hk3) (by unfold dOk; rw [if_neg hk2, if_neg hk3]) (fun h => by cases h)
/-- A maker of these bytes, with this row. -/
structure MkAt (w0 w : World) (g : Nat) (out : List Int) (a b c d : Int) : Prop where
  ex : ∃ A cap, IsMk w g (.slice A out.length cap) a b c d ∧ Kd.R (Kd.int .u8) 5 w w0.heap.size (fun k => k ≠ g) (.slice A out.length cap) out
  ge : w0.heap.size ≤ g
  bel : Below w0.heap.size w0 w
theorem MkAt.stored {w0 W w1 : World} {g : Nat} {out : List Int} {v v1 : Value} {a b c d y : Int} (hI : IsMk W g v a b c d) (hR : Kd.R (Kd.int .u8) 5 W w0.heap.size (fun k => k ≠ g) v out)
    (ho : Kd.R (Kd.int .u8) 5 w1 w0.heap.size (fun k => k ≠ g) v1 (out ++ [y])) (hb : Below w0.heap.size w0 w1) (hg : W.grownBy w1 v.ownBlock) (hge : w0.heap.size ≤ g) : MkAt w0 (w1.setCell ⟨g, 0, none⟩ v1) g (out ++ [y]) a b c d := by
  obtain ⟨A', c', rfl⟩ := Kd.R_slice ho
  have h1 : w1.heap[g]? = some (.cells #[v, .int .i64 a, .int .i64 b, .int .i64 c, .int .i64 d] 54 (0, 0)) := blk_grown hI hg (fun e => hR.1 g e.symm rfl)
  exact ⟨⟨A', c', (blk_set h1 0 _).trans rfl, Kd.R_far ho (fun k hk => hk) _⟩, hge, hb.setCell hge _⟩
theorem tok_apart {W : World} {base : Nat} {ok : Nat → Prop} {v : Value} {out : List Int} {T : Nat} {cs : Array Value} (hR : Kd.R (Kd.int .u8) 5 W base ok v out) (hT : W.heap[T]? = some (.cells cs 27 (0, 0))) : some T ≠ v.ownBlock := by
  intro e
  obtain ⟨cells, hc⟩ := Kd.R_typed hR T e.symm
  rw [hT] at hc
  simp at hc
theorem after_app {w0 W w1 : World} {g T : Nat} {out : List Int} {A : Option Addr} {cap : Nat} {v1 : Value} {a b c d y : Int} {cs : Array Value} (hI : IsMk W g (.slice A out.length cap) a b c d) (hR : Kd.R (Kd.int .u8) 5 W w0.heap.size (fun k => k ≠ g) (.slice A out.length cap) out)
    (hT : W.heap[T]? = some (.cells cs 27 (0, 0))) (hgT : g ≠ T)
    (ho : Kd.R (Kd.int .u8) 5 w1 w0.heap.size (fun k => k ≠ g) v1 (out ++ [y])) (hb : Below w0.heap.size w0 w1) (hg : W.drew.grownBy w1 (Value.slice A out.length cap).ownBlock) (hge : w0.heap.size ≤ g) :
    ∃ A1 c1, v1 = .slice A1 (out.length + 1) c1 ∧ w1.cell? ⟨g, 0, none⟩ = some (.slice A out.length cap) ∧ w1.frozen? ⟨g, 0, none⟩ = false ∧ Aside0 (MkAt w0 (w1.setCell ⟨g, 0, none⟩ (.slice A1 (out.length + 1) c1)) g (out ++ [y]) a b c d) ∧
      Aside0 ((w1.setCell ⟨g, 0, none⟩ (.slice A1 (out.length + 1) c1)).heap[T]? = some (.cells cs 27 (0, 0))) := by
  obtain ⟨A1, c1, e⟩ := Kd.R_slice ho
  rw [List.length_append, List.length_singleton] at e
  subst e
  have h1 := blk_grown (w := W.drew) hI hg (fun e => hR.1 g e.symm rfl)
  have h2 := blk_grown (w := W.drew) hT hg (tok_apart hR hT)
  exact ⟨A1, c1, rfl, (blk_cell h1 0).trans rfl, blk_frozen h1 0, ⟨MkAt.stored (W := W.drew) hI (Kd.R_drew hR) ho hb hg hge⟩, ⟨blk_far h2 (p := ⟨g, 0, none⟩) (Ne.symm hgT) _⟩⟩
theorem after_app2 {w0 W w1 : World} {g : Nat} {out : List Int} {A : Option Addr} {cap : Nat} {v1 : Value} {a b c d y : Int} (hI : IsMk W g (.slice A out.length cap) a b c d) (hR : Kd.R (Kd.int .u8) 5 W w0.heap.size (fun k => k ≠ g) (.slice A out.length cap) out)
    (ho : Kd.R (Kd.int .u8) 5 w1 w0.heap.size (fun k => k ≠ g) v1 (out ++ [y])) (hb : Below w0.heap.size w0 w1) (hg : W.drew.grownBy w1 (Value.slice A out.length cap).ownBlock) (hge : w0.heap.size ≤ g) :
    ∃ A1 c1, v1 = .slice A1 (out.length + 1) c1 ∧ w1.cell? ⟨g, 0, none⟩ = some (.slice A out.length cap) ∧ w1.frozen? ⟨g, 0, none⟩ = false ∧ Aside0 (MkAt w0 (w1.setCell ⟨g, 0, none⟩ (.slice A1 (out.length + 1) c1)) g (out ++ [y]) a b c d) := by
  obtain ⟨A1, c1, e⟩ := Kd.R_slice ho
  rw [List.length_append, List.length_singleton] at e
  subst e
  have h1 := blk_grown (w := W.drew) hI hg (fun e => hR.1 g e.symm rfl)
  exact ⟨A1, c1, rfl, (blk_cell h1 0).trans rfl, blk_frozen h1 0, ⟨MkAt.stored (W := W.drew) hI (Kd.R_drew hR) ho hb hg hge⟩⟩
theorem infoU8 : (Try.prog.info? 5).map (fun i => (i.zero, i.size, i.bytes)) = some (some (.int .u8 0), 1, 1) := by kernel_rfl
theorem lit_same (l x s : Int) : (l == 0 && (x == 0 && s == 0)) = decide (l = 0 ∧ x = 0 ∧ s = 0) := by rw [Bool.eq_iff_iff]; simp
def tokC (k b l d s : Int) : Obj := .cells #[.int .u8 k, .int .u8 b, .int .i64 l, .int .i64 d, .int .i64 s] 27
set_option maxHeartbeats 2000000 in
set_option maxRecDepth 100000 in
theorem add_lit (w0 w : World) (g : Nat) (out : List Int) (a b c d : Int) (hM : MkAt w0 w g out a b c d) (bb l x s : Int) (hlen : out.length + 2 ≤ 140737488355328) :
    Calls Try.prog 26 #[.pointer (some ⟨g, 0, none⟩), tokV 1 bb l x s] w fun e w' => e = .returned (.bool (decide (l = 0 ∧ x = 0 ∧ s = 0))) ∧ MkAt w0 w' g (out ++ [bb]) a b c d := by
  obtain ⟨⟨A, cap, hI, hR⟩, hge, hB⟩ := hM
  have hI' : (w.alloc (tokC 1 bb l x s)).heap[g]? = _ := (Below.heap_alloc w _ g (blk_lt hI)).trans hI
  have hR' := Kd.R_alloc hR (tokC 1 bb l x s)
  have hB' := below_alloc hB (tokC 1 bb l x s)
  have hT := blk_new w (tokC 1 bb l x s)
  have hgT : g ≠ w.heap.size := Nat.ne_of_lt (blk_lt hI)
  obtain ⟨T, hTe⟩ : ∃ T, T = w.heap.size := ⟨_, rfl⟩
  rw [← hTe] at hT hgT
  have GE := Aside0.mk hge
  have LEN := Aside0.mk hlen
  clear hI hR hB hge hlen
  unfold tokV
  go_enter Try.func26, Try.ntmps26
  go_upto_region 2 with fail
  rw [← hTe]
  clear hTe
  change Code.wp _ _ _ _ (w.alloc (tokC 1 bb l x s))
  generalize w.alloc (tokC 1 bb l x s) = W at *
  go_cut [] from 10 (fun wx => MkAt w0 wx g (out ++ [bb]) a b c d ∧ wx.heap[T]? = some (tokC 1 bb l x s))
  case first =>
    have m0 : W.cell? ⟨g, 0, none⟩ = some (.slice A out.length cap) := (blk_cell hI' 0).trans rfl
    have f0 : W.frozen? ⟨g, 0, none⟩ = false := blk_frozen hI' 0
    have t1 : W.cell? ⟨T, 1, none⟩ = some (.int .u8 bb) := (blk_cell hT 1).trans rfl
    have HR := Aside0.mk hR'
    have HB := Aside0.mk hB'
    have HI := Aside0.mk hI'
    have HT := Aside0.mk hT
    have HGT := Aside0.mk hgT
    have hlt := blk_lt hI'
    have hge := GE.out
    clear hR' hB' hI' hT hgT
    go_region_law (refine Kd.R_append_step (Kd.int .u8) (w0 := w0) w0.heap.size rfl (.tmp 14) (.tmp 17) 35 5 (.int .u8 0) 1 rfl Try.underlying35 infoU8 rfl (by decide) (by decide) (.slice A out.length cap) out bb [.int .u8 bb] (fun k => k ≠ g) (fun _ => False) (by simp [Act.eval, Act.put]) (by simp [Act.eval, Act.put]) rfl (fun _ hk => hk.elim) (fun k hk => by simp at hk; omega) (Kd.R_drew HR.out) (below_drew HB.out) (by show w0.heap.size ≤ W.heap.size; omega) (by have := LEN.out; omega) ?_; intro v1 w1 ho hb hg hat; obtain ⟨A1, c1, rfl, n1, n2, S1, T1⟩ := after_app HI.out HR.out HT.out HGT.out ho hb hg GE.out; clear ho hb hg hat)
    all_goals (go_wp2_with fail; go_meet; exact ⟨S1.out, T1.out⟩)
  case rest =>
    obtain ⟨hM, hT2⟩ := hcut
    have HM := Aside0.mk hM
    have t0 : wc.cell? ⟨T, 0, none⟩ = some (.int .u8 1) := (blk_cell hT2 0).trans rfl
    have t1 : wc.cell? ⟨T, 1, none⟩ = some (.int .u8 bb) := (blk_cell hT2 1).trans rfl
    have t2 : wc.cell? ⟨T, 2, none⟩ = some (.int .i64 l) := (blk_cell hT2 2).trans rfl
    have t3 : wc.cell? ⟨T, 3, none⟩ = some (.int .i64 x) := (blk_cell hT2 3).trans rfl
    have t4 : wc.cell? ⟨T, 4, none⟩ = some (.int .i64 s) := (blk_cell hT2 4).trans rfl
    have HT2 := Aside0.mk hT2
    clear hM hT2 hI' hR' hB' hT
    go_wp2_with fail
    go_ret
    exact ⟨congrArg (fun z => Ending.returned (Value.bool z)) (lit_same l x s), HM.out⟩
theorem own_byte {W : World} {e base : Nat} {ok : Nat → Prop} {A : Option Addr} {n cap : Nat} {xs : List Int} (h : Kd.R (Kd.int .u8) e W base ok (.slice A n cap) xs) (i : Nat) (hi : i < xs.length) (hn : xs.length = n) : ∃ ad, A = some ad ∧ W.cell? (ad.add i) = some (.int .u8 (xs.getD i 0)) := by
  subst hn
  obtain ⟨ad, c, hv⟩ := Kd.R_slice1 h (by omega)
  injection hv with h1 h2 h3
  subst h1 h3
  obtain ⟨cs, h1, h2, h3⟩ := Kd.R_get h 0 (i : Int) (by omega) (by omega)
  refine ⟨ad, rfl, ?_⟩
  have e : cs = [.int .u8 (xs.getD i 0)] := h2
  rw [e] at h3
  have h4 := h3 0 _ rfl
  rw [Int.toNat_natCast, show (Kd.int .u8).sz = 1 from rfl, Nat.mul_one, Nat.add_zero] at h4
  exact h4
/-- What a distance makes, byte by byte. -/
def grow (D : Nat) : Nat → List Int → List Int
  | 0, o => o
  | j + 1, o => grow D j o ++ [(grow D j o).getD ((grow D j o).length - D) 0]
theorem grow_length (D : Nat) : ∀ (j : Nat) (o : List Int), (grow D j o).length = o.length + j
  | 0, o => rfl
  | j + 1, o => by rw [grow, List.length_append, grow_length D j o]; rfl
theorem MkAt.below {w0 w w1 : World} {g : Nat} {out : List Int} {a b c d : Int} (h : MkAt w0 w g out a b c d) (hb : Below w.heap.size w w1) : MkAt w0 w1 g out a b c d := by
  obtain ⟨A, cap, hI, hR⟩ := h.ex
  exact ⟨⟨A, cap, (hb.block g (blk_lt hI)).trans hI, Kd.R_below hR hb⟩, h.ge, h.bel.trans (hb.mono h.bel.size)⟩
theorem MkAt.row {w0 w : World} {g : Nat} {out : List Int} {a b c d : Int} (h : MkAt w0 w g out a b c d) (a' b' c' d' : Int) :
    MkAt w0 ((((w.setCell ⟨g, 1, none⟩ (.int .i64 a')).setCell ⟨g, 2, none⟩ (.int .i64 b')).setCell ⟨g, 3, none⟩ (.int .i64 c')).setCell ⟨g, 4, none⟩ (.int .i64 d')) g out a' b' c' d' := by
  obtain ⟨A, cap, hI, hR⟩ := h.ex
  refine ⟨⟨A, cap, (blk_set (blk_set (blk_set (blk_set hI 1 _) 2 _) 3 _) 4 _).trans rfl, ?_⟩, h.ge, ?_⟩
  · exact Kd.R_far (Kd.R_far (Kd.R_far (Kd.R_far hR (fun k hk => hk) _) (fun k hk => hk) _) (fun k hk => hk) _) (fun k hk => hk) _
  · exact (((h.bel.setCell (p := ⟨g, 1, none⟩) h.ge _).setCell (p := ⟨g, 2, none⟩) h.ge _).setCell (p := ⟨g, 3, none⟩) h.ge _).setCell (p := ⟨g, 4, none⟩) h.ge _
set_option maxHeartbeats 2000000 in
set_option maxRecDepth 100000 in
theorem add_no (w0 w : World) (g : Nat) (out : List Int) (a b c d : Int) (hM : MkAt w0 w g out a b c d) (k bb l x s : Int) (hk : k ≠ 1) (hno : dOk a b c d out.length k bb l x s = false) :
    Calls Try.prog 26 #[.pointer (some ⟨g, 0, none⟩), tokV k bb l x s] w fun e w' => e = .returned (.bool false) ∧ Below w0.heap.size w0 w' := by
  have HM := Aside0.mk (hM.below (below_alloc (Below.refl _ w) (tokC k bb l x s)))
  have HNO := Aside0.mk hno
  have e1 : (k == 1) = false := beq_eq_false_iff_ne.mpr hk
  have e2 : (k = 1) = False := eq_false hk
  clear hM hno hk
  unfold tokV
  go_enter Try.func26, Try.ntmps26
  go_wp2_with fail
  obtain ⟨A, cap, hI, hR⟩ := HM.out.ex
  refine (dist_calls A _ cap a b c d k bb l x s g _ hI).mono ?_
  rintro e w1 ⟨y, rfl, _, hb⟩
  have HB := Aside0.mk (HM.out.bel.trans (hb.mono HM.out.bel.size))
  rw [HNO.out]
  clear hI hR hb
  go_wp2_with fail
  go_ret
  exact ⟨rfl, HB.out⟩
/-- The row behind a distance. -/
def frontA (a b c d x : Int) : Int := (front a b c d x).1
set_option maxHeartbeats 4000000 in
set_option maxRecDepth 100000 in
theorem add_yes (w0 w : World) (g : Nat) (out : List Int) (a b c d : Int) (hM : MkAt w0 w g out a b c d) (k bb x s : Int) (L D : Nat) (hk : k ≠ 1) (hyes : dOk a b c d out.length k bb (L : Int) x s = true) (hX : dX a b c d k x s = (D : Int)) (hD1 : 1 ≤ D) (hD2 : D ≤ out.length) (hL : L ≤ 258) (hlen : out.length + 300 ≤ 140737488355328) :
    Calls Try.prog 26 #[.pointer (some ⟨g, 0, none⟩), tokV k bb (L : Int) x s] w fun e w' => e = .returned (.bool true) ∧ MkAt w0 w' g (grow D L out) (front a b c d D).1 (front a b c d D).2.1 (front a b c d D).2.2.1 (front a b c d D).2.2.2 := by
  have HM := Aside0.mk (hM.below (below_alloc (Below.refl _ w) (tokC k bb L x s)))
  have HYES := Aside0.mk hyes
  have HX := Aside0.mk hX
  have HT := Aside0.mk (blk_new w (tokC k bb L x s))
  have HGT := Aside0.mk (show g ≠ w.heap.size from by obtain ⟨A, cap, hI, _⟩ := hM.ex; exact Nat.ne_of_lt (blk_lt hI))
  have e1 : (k == 1) = false := beq_eq_false_iff_ne.mpr hk
  have e2 : (k = 1) = False := eq_false hk
  have HL := Aside0.mk hlen
  clear hM hyes hk hX hlen
  unfold tokV
  go_enter Try.func26, Try.ntmps26
  go_wp2_with fail
  obtain ⟨T, hTe⟩ : ∃ T, T = w.heap.size := ⟨_, rfl⟩
  rw [← hTe] at HT HGT ⊢
  clear hTe
  change Calls _ _ _ (w.alloc (tokC k bb L x s)) _
  generalize w.alloc (tokC k bb L x s) = W at *
  obtain ⟨A, cap, hI, hR⟩ := HM.out.ex
  refine (dist_calls A _ cap a b c d k bb L x s g _ hI).mono ?_
  rintro e w1 ⟨y, rfl, hy, hb⟩
  rw [HYES.out] at hy ⊢
  obtain rfl := hy rfl
  rw [HX.out]
  have M1 := Aside0.mk (HM.out.below hb)
  have hT1 := (hb.block T (blk_lt HT.out)).trans HT.out
  have t2 : w1.cell? ⟨T, 2, none⟩ = some (.int .i64 L) := (blk_cell hT1 2).trans rfl
  have TL := Aside0.mk (blk_lt hT1)
  clear hI hR hb hy hT1 HM HT
  obtain ⟨A1, cap1, hI1, hR1⟩ := M1.out.ex
  have n1 : w1.cell? ⟨g, 1, none⟩ = some (.int .i64 a) := (blk_cell hI1 1).trans rfl
  have n2 : w1.cell? ⟨g, 2, none⟩ = some (.int .i64 b) := (blk_cell hI1 2).trans rfl
  have n3 : w1.cell? ⟨g, 3, none⟩ = some (.int .i64 c) := (blk_cell hI1 3).trans rfl
  have n4 : w1.cell? ⟨g, 4, none⟩ = some (.int .i64 d) := (blk_cell hI1 4).trans rfl
  clear hI1 hR1
  go_wp2_with fail
  refine (token_Front_calls a b c d D _).mono ?_
  rintro e w2 ⟨rfl, hb⟩
  have M2 := Aside0.mk (M1.out.below hb)
  have t3 := (hb.cell (p := ⟨T, 2, none⟩) TL.out).trans t2
  have TL2 := Aside0.mk (Nat.lt_of_lt_of_le TL.out hb.size)
  have hgT : g ≠ T := HGT.out
  clear hb t2 n1 n2 n3 n4 M1 TL
  obtain ⟨fa, hfa⟩ : ∃ z, (front a b c d D).1 = z := ⟨_, rfl⟩
  have Hfa := Aside0.mk hfa
  rw [hfa]
  clear hfa
  obtain ⟨fb, hfb⟩ : ∃ z, (front a b c d D).2.1 = z := ⟨_, rfl⟩
  have Hfb := Aside0.mk hfb
  rw [hfb]
  clear hfb
  obtain ⟨fc, hfc⟩ : ∃ z, (front a b c d D).2.2.1 = z := ⟨_, rfl⟩
  have Hfc := Aside0.mk hfc
  rw [hfc]
  clear hfc
  obtain ⟨fd, hfd⟩ : ∃ z, (front a b c d D).2.2.2 = z := ⟨_, rfl⟩
  have Hfd := Aside0.mk hfd
  rw [hfd]
  clear hfd
  obtain ⟨A2, cap2, hI2, hR2⟩ := M2.out.ex
  have f1 : w2.frozen? ⟨g, 1, none⟩ = false := blk_frozen hI2 1
  have f2 : w2.frozen? ⟨g, 2, none⟩ = false := blk_frozen hI2 2
  have f3 : w2.frozen? ⟨g, 3, none⟩ = false := blk_frozen hI2 3
  have f4 : w2.frozen? ⟨g, 4, none⟩ = false := blk_frozen hI2 4
  have n1 : w2.cell? ⟨g, 1, none⟩ = some (.int .i64 a) := (blk_cell hI2 1).trans rfl
  have n2 : w2.cell? ⟨g, 2, none⟩ = some (.int .i64 b) := (blk_cell hI2 2).trans rfl
  have n3 : w2.cell? ⟨g, 3, none⟩ = some (.int .i64 c) := (blk_cell hI2 3).trans rfl
  have n4 : w2.cell? ⟨g, 4, none⟩ = some (.int .i64 d) := (blk_cell hI2 4).trans rfl
  have M3 := Aside0.mk (M2.out.row fa fb fc fd)
  clear hI2 hR2
  unfold rowVal
  go_wp2_with fail
  clear f1 f2 f3 f4 n1 n2 n3 n4 t3
  go_loopw [45] (fun i wr => ∃ j : Nat, j ≤ L ∧ i = .int .i64 j ∧ Aside0 (MkAt w0 wr g (grow D j out) fa fb fc fd)) (fun i _ => L - (intOf i).toNat)
  case atStart => exact ⟨0, Nat.zero_le _, rfl, M3⟩
  case round =>
    obtain ⟨j, hj, rfl, M4⟩ := hrel
    by_cases hlt : j < L
    · have hgl := grow_length D j out
      obtain ⟨A4, cap4, hI4, hR4⟩ := M4.out.ex
      have hlen4 : (grow D j out).length + 2 ≤ 140737488355328 := by have := HL.out; omega
      obtain ⟨ad, rfl, hc⟩ := own_byte hR4 ((grow D j out).length - D) (by omega) rfl
      have HI := Aside0.mk hI4
      have HR := Aside0.mk hR4
      have HB := Aside0.mk M4.out.bel
      have hge := M4.out.ge
      have hlt4 := blk_lt hI4
      have m0 : wr.cell? ⟨g, 0, none⟩ = some (.slice (some ad) (grow D j out).length cap4) := (blk_cell hI4 0).trans rfl
      have f0 : wr.frozen? ⟨g, 0, none⟩ = false := blk_frozen hI4 0
      have hs1 : IntKind.i64.wrap (((grow D j out).length : Int) - (D : Int)) = (((grow D j out).length - D : Nat) : Int) := by
        rw [IntWalk.i64_in _ (by omega)]
        omega
      have hs2 : ((((grow D j out).length - D : Nat) : Int)).toNat = (grow D j out).length - D := Int.toNat_natCast _
      have hs3 : (grow D j out).length - D < (grow D j out).length := by omega
      have hgr : grow D (j + 1) out = grow D j out ++ [(grow D j out).getD ((grow D j out).length - D) 0] := rfl
      have HGR := Aside0.mk hgr
      generalize (grow D j out).getD ((grow D j out).length - D) 0 = y at hc HGR
      clear hgr hI4 hR4
      generalize grow D j out = G at *
      have HGL := Aside0.mk hgl
      clear hgl
      go_wp2_with fail
      go_region_law (refine Kd.R_append_step (Kd.int .u8) (w0 := w0) w0.heap.size rfl (.tmp 51) (.tmp 65) 35 5 (.int .u8 0) 1 rfl Try.underlying35 infoU8 rfl (by decide) (by decide) (.slice (some ad) G.length cap4) G y [.int .u8 y] (fun k => k ≠ g) (fun _ => False) (by simp [Act.eval, Act.put]) (by simp [Act.eval, Act.put]) rfl (fun _ hk => hk.elim) (fun k hk => by simp at hk; omega) (Kd.R_drew HR.out) (below_drew HB.out) (by show w0.heap.size ≤ wr.heap.size; omega) (by omega) ?_; intro v1 w1 ho hb hg hat; obtain ⟨A1, c1, rfl, n1, n2, S1⟩ := after_app2 HI.out HR.out ho hb hg hge; clear ho hb hg hat)
      all_goals
        go_wp2_with fail
        go_roundw
        case rel => exact ⟨j + 1, by omega, by go_num, Aside0.mk (by rw [HGR.out]; exact S1.out)⟩
        case measure => simp [intOf]; omega
    · obtain rfl : j = L := by omega
      go_wp2_with fail
      go_ret
      exact ⟨rfl, by rw [Hfa.out, Hfb.out, Hfc.out, Hfd.out]; exact M4.out⟩
end Go.Proofs.Ytaooiffnpnmdeaa.PIx
