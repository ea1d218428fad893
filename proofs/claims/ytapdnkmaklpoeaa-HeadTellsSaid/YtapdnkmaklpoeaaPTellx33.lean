-- Made by a program of this session (wip/tools/pp.py) out of the seat's translation; contracts of some functions are typed by hand.
import Derived.Test.YtapdnkmaklpoeaaPTellx0
import Derived.Test.YtapdnkmaklpoeaaPTellx19
import Derived.Test.YtapdnkmaklpoeaaHeadEach
namespace Go.Proofs.Ytapdnkmaklpoeaa.PTell
open Go.RowKit Go.Proofs.YtapdnkmaklpoeaaW.PrintWords Go.Proofs.YtapdnkmaklpoeaaW.PrintLast Go.Proofs.YtapdnkmaklpoeaaW.PrintMore
attribute [local go_sem] max2_int min2_int max_two min_two max_three min_three max_four min_four   -- for this text's walks alone
set_option linter.unusedVariables false
set_option linter.unusedSimpArgs false

/-! ### head_All: function 14 -/
def head_All.l0 : Nat → ByteArray → List (S23) → Option ((List (S23)) × Int)
  | 0, _, _ => none
  | k + 1, x0, x4 => (head_Get.f k x0).bind fun bt150 => (if bt150.2.2.2 = 0 then (if x4.length < 5864062014805 then (if 0 ≤ bt150.2.2.1 then (if bt150.2.2.1 ≤ (x0.size : Int) then (head_All.l0 k (x0.extract (bt150.2.2.1 : Int).toNat x0.size) (x4 ++ [(⟨bt150.1, bt150.2.1⟩ : S23)])) else (none)) else (none)) else (none)) else (if x0.toList = ([] : List UInt8) then (some (x4, 0)) else (some (([] : List (S23)), 4))))
def head_All.f (k : Nat) (a0 : ByteArray) : Option ((List (S23)) × Int) := head_All.l0 k a0 ([] : List (S23))
theorem head_All.mono_l : ∀ k, (∀ y0 y1, LeO (head_All.l0 k y0 y1) (head_All.l0 (k + 1) y0 y1))
  | 0 => fun _ _ r h => by simp [head_All.l0] at h
  | k + 1 => by
    have ih0 := head_All.mono_l k
    · intro y0 y1
      unfold head_All.l0
      repeat' first
      | (with_reducible exact ih0 _ _)
      | (with_reducible exact head_Get.mono _ _)
      | (with_reducible exact LeO.refl _)
      | (with_reducible exact LeO.none _)
      | (with_reducible refine LeO.ite ?_ ?_)
      | (with_reducible refine LeO.bind ?_ (fun _ => ?_))
      | exact ih0 _ _
      | exact head_Get.mono _ _
      | exact LeO.none _
      | refine LeO.ite ?_ ?_
      | refine LeO.bind ?_ (fun _ => ?_)
theorem head_All.mono : ∀ a0 k, LeO (head_All.f k a0) (head_All.f (k + 1) a0) := by
  intro a0 k
  have ih0 := head_All.mono_l k
  unfold head_All.f
  repeat' first
      | (with_reducible exact ih0 _ _)
      | (with_reducible exact head_Get.mono _ _)
      | (with_reducible exact LeO.refl _)
      | (with_reducible exact LeO.none _)
      | (with_reducible refine LeO.ite ?_ ?_)
      | (with_reducible refine LeO.bind ?_ (fun _ => ?_))
      | exact ih0 _ _
      | exact head_Get.mono _ _
      | exact LeO.none _
      | refine LeO.ite ?_ ?_
      | refine LeO.bind ?_ (fun _ => ?_)
/-- The headers as records. -/
def recs (L : List (Int × ByteArray × ByteArray)) : List S23 := L.map fun x => ⟨x.1, x.2.1⟩
/-- Their cells. -/
def cells2 (xs : List S23) : List Value := xs.flatMap fun x => [.int .u8 x.f0, .string x.f1]
/-- What is left behind the last. -/
def lastOf (s : ByteArray) (L : List (Int × ByteArray × ByteArray)) : ByteArray := (L.getLast?.map (fun x => x.2.2)).getD s
theorem lastOf_snoc (s : ByteArray) (L : List (Int × ByteArray × ByteArray)) (x : Int × ByteArray × ByteArray) : lastOf s (L ++ [x]) = x.2.2 := by simp [lastOf]
theorem cells2_snoc (xs : List S23) (x : S23) : cells2 (xs ++ [x]) = cells2 xs ++ [.int .u8 x.f0, .string x.f1] := by simp [cells2]
theorem recs_snoc (L : List (Int × ByteArray × ByteArray)) (x : Int × ByteArray × ByteArray) : recs (L ++ [x]) = recs L ++ [⟨x.1, x.2.1⟩] := by simp [recs]
theorem recs_len (L : List (Int × ByteArray × ByteArray)) : (recs L).length = L.length := by simp [recs]
theorem reps_more (W : World) (base : Nat) (ok : Nat → Prop) : ∀ (ys acc : List S23), Reps (k23.M W base ok) 2 acc (cells2 acc) → Reps (k23.M W base ok) 2 (acc ++ ys) (cells2 (acc ++ ys))
  | [], acc, h => by rw [List.append_nil]; exact h
  | y :: ys, acc, h => by
    have h2 := reps_more W base ok ys (acc ++ [y]) (by rw [cells2_snoc]; exact h.snoc (k23_mkM W base ok y) rfl)
    rwa [List.append_assoc, List.singleton_append] at h2
theorem reps_all (W : World) (base : Nat) (ok : Nat → Prop) (xs : List S23) : Reps (k23.M W base ok) 2 xs (cells2 xs) := reps_more W base ok xs [] (Reps.none _ _)
theorem not_empty {z : ByteArray} (h : z ≠ ⟨#[]⟩) : z.toList.isEmpty = false := by
  cases hl : z.toList with
  | nil => exact absurd (toList_nil hl) h
  | cons _ _ => rfl
theorem all_heads (r1 : List S23) (r2 : Int) : ∀ (k : Nat) (s : ByteArray) (acc : List S23), head_All.l0 k s acc = some (r1, r2) →
    ∃ L, heads k s = some (L, lastOf s L) ∧ (lastOf s L = ⟨#[]⟩ → r1 = acc ++ recs L ∧ r2 = 0) ∧ (lastOf s L ≠ ⟨#[]⟩ → r1 = [] ∧ r2 = 4) ∧ (L ≠ [] → acc.length + L.length ≤ 5864062014805)
  | 0, _, _, h => by simp [head_All.l0] at h
  | k + 1, s, acc, h => by
    simp only [head_All.l0] at h
    obtain ⟨⟨a, b, u, e⟩, hG, h⟩ := Option.bind_eq_some_iff.mp h
    simp only at h
    by_cases he : e = 0
    · rw [if_pos he] at h
      by_cases h1 : acc.length < 5864062014805
      · rw [if_pos h1] at h
        by_cases h2 : 0 ≤ u
        · rw [if_pos h2] at h
          by_cases h3 : u ≤ (s.size : Int)
          · rw [if_pos h3] at h
            obtain ⟨L, hL, ha, hb, hc⟩ := all_heads r1 r2 k _ _ h
            have hl : lastOf s ((a, b, s.extract u.toNat s.size) :: L) = lastOf (s.extract u.toNat s.size) L := by
              cases L with
              | nil => simp [lastOf]
              | cons x L => simp [lastOf, List.getLast?_cons]
            refine ⟨(a, b, s.extract u.toNat s.size) :: L, ?_, ?_, ?_, ?_⟩
            · rw [heads, hG]
              simp only [Option.bind_some, if_pos he, if_pos h2, if_pos h3, hL]
              rw [hl]
            · rw [hl]
              intro z
              obtain ⟨q1, q2⟩ := ha z
              exact ⟨by rw [q1]; simp [recs], q2⟩
            · rw [hl]; exact hb
            · intro _
              cases L with
              | nil => simp; omega
              | cons x L =>
                have := hc (by simp)
                simp at this ⊢
                omega
          · rw [if_neg h3] at h; cases h
        · rw [if_neg h2] at h; cases h
      · rw [if_neg h1] at h; cases h
    · rw [if_neg he] at h
      refine ⟨[], ?_, ?_, ?_, by simp⟩
      · rw [heads, hG]
        simp only [Option.bind_some, if_neg he]
        rfl
      · intro z
        have z' : s = ⟨#[]⟩ := z
        rw [z'] at h
        rw [if_pos (show (⟨#[]⟩ : ByteArray).toList = ([] : List UInt8) by rw [ByteArray.toList_eq])] at h
        simp only [Option.some.injEq, Prod.mk.injEq] at h
        exact ⟨by rw [← h.1]; simp [recs], h.2.symm⟩
      · intro z
        have z' : ¬ s.toList = ([] : List UInt8) := fun q => z (toList_nil q)
        rw [if_neg z'] at h
        simp only [Option.some.injEq, Prod.mk.injEq] at h
        exact ⟨h.1.symm, h.2.symm⟩
attribute [local go_sem] Oper.semAt_some
set_option maxHeartbeats 4000000 in
set_option maxRecDepth 100000 in
theorem head_All.calls (k : Nat) (a0 : ByteArray) (r1 : List (S23)) (r2 : Int) (w : World) (h : head_All.f k a0 = some (r1, r2)) :
    Calls Try.prog 14 #[.string a0] w fun e w' => ∃ v0_ : Value, e = .returned (.tuple #[v0_, .int .i64 r2]) ∧ Kd.R k23 23 w' w.heap.size (fun _ => True) v0_ r1 ∧ Below w.heap.size w w' := by
  obtain ⟨L, hL, hr0, hr4, hlen⟩ := all_heads r1 r2 k a0 [] h
  have HL := Aside0.mk hL
  have HR0 := Aside0.mk hr0
  have HR4 := Aside0.mk hr4
  have HLEN := Aside0.mk hlen
  clear h hL hr0 hr4 hlen
  refine (callsIn_wide (n := 3)).1 ?_
  refine callsIn_of_wp_marks Try.func14 rfl trivial ?_ rfl
  simp only [Try.ntmps14, List.size_toArray, List.length_cons, List.length_nil, Nat.reduceAdd, Nat.reduceSub, Array.replicate_succ, Array.replicate_zero, List.push_toArray, List.append_toArray, List.nil_append, List.cons_append]
  gi_wp2_with fail
  refine ⟨trivial, callsIn_wide.2 ((each_calls _ _).mono ?_)⟩
  rintro e w' ⟨rfl, rfl⟩
  gi_wp2_with fail
  have bS := ((Boxed.new w 9 (.string a0)).alloc (.cells #[.slice none 0 0] 34)).alloc (.cells #[.string a0] 9)
  have bO := (Boxed.new (w.alloc (.cells #[.string a0] 9)) 34 (.slice none 0 0)).alloc (.cells #[.string a0] 9)
  have bE := Boxed.new ((w.alloc (.cells #[.string a0] 9)).alloc (.cells #[.slice none 0 0] 34)) 9 (.string a0)
  simp only [World.size_alloc] at bO bE
  have hB0 : Below w.heap.size w (((w.alloc (.cells #[.string a0] 9)).alloc (.cells #[.slice none 0 0] 34)).alloc (.cells #[.string a0] 9)) := (((Below.refl _ w).alloc (Nat.le_refl _) _).alloc (by simp) _).alloc (by simp; omega) _
  have hsz : (((w.alloc (.cells #[.string a0] 9)).alloc (.cells #[.slice none 0 0] 34)).alloc (.cells #[.string a0] 9)).heap.size = w.heap.size + 3 := by simp
  obtain ⟨W0, hW0⟩ : ∃ W0, ((w.alloc (.cells #[.string a0] 9)).alloc (.cells #[.slice none 0 0] 34)).alloc (.cells #[.string a0] 9) = W0 := ⟨_, rfl⟩
  rw [hW0] at bS bO bE hB0 hsz ⊢
  clear hW0
  refine Rf.range_box rfl (by omega) (gf := 36) (lb := #[.pointer (some ⟨w.heap.size + 1 + 1, 0, none⟩)]) rfl trivial (enters_of Try.func36 (by kernel_rfl) rfl) (by omega)
    (each_tells 2 (w.heap.size + 1 + 1) k a0 L (lastOf a0 L) W0 HL.out bE) (fun _ => rfl)
    (fun pre W => ((∃ v, Boxed W (w.heap.size + 1) 34 v ∧ W.ownsRow w.heap.size 23 2 v pre.length (cells2 (recs pre)) ∧ v.ownBlock ≠ some (w.heap.size + 1 + 1)) ∧ Boxed W w.heap.size 9 (.string (lastOf a0 pre))) ∧ Below w.heap.size w W)
    ?bears ?start (fun x a' W => ∃ Bx, W.heap[Bx]? = some (.cells #[.int .u8 x.1, .string x.2.1] 23 (0, 0)) ∧ Bx ≠ w.heap.size + 1 + 1 ∧ a' = { tmps := #[.string a0, .pointer (some ⟨w.heap.size, 0, none⟩), .slice none 0 0, .int .i64 0, .pointer (some ⟨w.heap.size + 1, 0, none⟩), .pointer (some ⟨Bx, 0, none⟩), .string x.2.2, .string a0, .func (.func 36) #[] #[.pointer (some ⟨w.heap.size + 1 + 1, 0, none⟩)], .agg #[.int .u8 x.1, .string x.2.1], .string x.2.2, undef, undef, undef, undef, undef, undef, undef, undef], defers := [] })
    ?bearsA ?assign ?body ?done
  case bears =>
    rintro pre X Y row ⟨⟨⟨v, h1, h2, h3⟩, h4⟩, h5⟩ hg hr
    have far : ∀ B t u, Boxed X B t u → B ≠ w.heap.size + 1 + 1 → some B ≠ row := by
      intro B t u hb hn e
      rcases hr B e.symm with q | ⟨_, o, ho, hc⟩
      · exact hn q
      · rw [show X.heap[B]? = _ from hb] at ho
        cases ho
        cases hc
    refine ⟨⟨⟨v, h1.kept hg (far _ _ _ h1 (by omega)), h2.kept hg ?_, h3⟩, h4.kept hg (far _ _ _ h4 (by omega))⟩, h5.grown hg h5.size fun r e => ?_⟩
    · rcases h2.2 with ⟨rfl, _⟩ | ⟨g, cap, cur, rfl, _, hgb, _⟩
      · exact .inl rfl
      · refine .inr fun e' => ?_
        have eg : row = some g := e'.symm
        rcases hr g eg with q | ⟨_, o, ho, hc⟩
        · exact h3 (by simp [Value.ownBlock, q])
        · rw [hgb] at ho
          cases ho
          cases hc
    · rcases hr r e with q | ⟨q, _⟩ <;> omega
  case start => exact ⟨⟨⟨_, bO, World.ownsRow_nil _ _ _ _, by simp [Value.ownBlock]⟩, bS⟩, hB0⟩
  case bearsA =>
    rintro x a' _ X Y row ⟨Bx, h1, h2, h3⟩ hg hr
    refine ⟨Bx, (hg.block Bx (Array.getElem?_eq_some_iff.1 h1).1 fun e => ?_).trans h1, h2, h3⟩
    rcases hr Bx e.symm with q | ⟨_, o, ho, hc⟩
    · exact h2 q
    · rw [h1] at ho
      cases ho
      cases hc
  case assign =>
    rintro l pre x W K ⟨⟨⟨v, h1, h2, h3⟩, h4⟩, h5⟩ hbW hK
    gi_wp2_with fail
    exact hK _ _ (Rf.Stays.grown (World.grownBy_alloc W _ none) hbW (by simp)) ⟨⟨⟨v, h1.alloc _, h2.alloc _, h3⟩, h4.alloc _⟩, h5.alloc h5.size _⟩ ⟨W.heap.size, blk_new W _, by omega, rfl⟩
  case body =>
    rintro l pre x a' W ⟨⟨⟨v, h1, h2, h3⟩, h4⟩, h5⟩ ⟨Bx, b1, b2, rfl⟩ hN hbW
    have c1 := h1.cell
    have f1 := h1.frozen
    have c4 := h4.cell
    have f4 := h4.frozen
    have d0 := (blk_cell b1 0).trans (rfl : _ = some (Value.int .u8 x.1))
    have d1 := (blk_cell b1 1).trans (rfl : _ = some (Value.string x.2.1))
    obtain ⟨i0, hi, hz0, hz1, hz2⟩ := info_parts info23
    have hne : w.heap.size + 1 ≠ w.heap.size := by omega
    have hne' : w.heap.size ≠ w.heap.size + 1 := by omega
    have hlen : pre.length + 1 ≤ 5864062014805 := by
      have := HLEN.out (by intro e; rw [e] at hN; cases hN)
      simp at this
      omega
    have HH := Aside0.mk (And.intro h1 (And.intro h2 (And.intro h3 (And.intro h4 h5))))
    have HN := Aside0.mk hlen
    clear h1 h2 h3 h4 h5 hlen hN b1 HLEN HR0 HR4 HL bS bO bE hB0
    gi_wp2_with (gi_at_builtin; refine wpListIn_append_own_at _ rfl _ _ 34 rfl w.heap.size 23 i0 _ 2 24 Try.underlying34 hi hz0 hz1 hz2 rfl (by decide) v pre.length _ rfl (HH.out.2.1.alloc _) ⟨W.heap.size, 0, none⟩ 1 1 [.int .u8 x.1, .string x.2.1] rfl rfl ?c1 ?c2 ?c3 ?c4 ?c5 ?_)
    case c1 =>
      intro j u hj
      rw [add_plain, blk_cell (blk_new W _), ← hj, List.getElem?_toArray]
    case c2 =>
      intro u hu
      simp at hu
      rcases hu with rfl | rfl <;> rfl
    case c3 => have := HN.out; simp only [maxLen]; omega
    case c4 => have := HN.out; omega
    case c5 => have := HH.out.2.2.2.2.size; rw [World.size_alloc]; omega
    intro v' w1 hown' hgrow _ hat
    obtain ⟨h1, h2, h3, h4, h5⟩ := HH.out
    obtain ⟨g', cap', rfl⟩ := ownsRow_succ hown'
    obtain ⟨hv1, hv2, hr2, hk2, hb2⟩ := h1.appended (by decide) h2 h5.size (by omega) hown' hgrow
    have hs1 : Boxed w1 w.heap.size 9 (.string (lastOf a0 pre)) := (h4.alloc _).kept hgrow ((h4.alloc (.cells #[.int .u8 x.1, .string x.2.1] 23)).not_row (by decide) (h2.alloc _))
    have hs2 := hs1.other hne' (.slice (some ⟨g', 0, none⟩) (pre.length + 1) cap')
    have hc1 := hv1.cell
    have hf1 := hv1.frozen
    have hc2 := hs1.cell
    have hf2 := hs1.frozen
    have hc3 := hs2.cell
    have hf3 := hs2.frozen
    have s1 : Rf.Stays W0.heap.size (w.heap.size + 1 + 1) W (W.alloc (.cells #[.int .u8 x.1, .string x.2.1] 23)) := Rf.Stays.grown (World.grownBy_alloc W _ none) hbW (by simp)
    have s2 : Rf.Stays W0.heap.size (w.heap.size + 1 + 1) (W.alloc (.cells #[.int .u8 x.1, .string x.2.1] 23)) w1 := Rf.Stays.grown hgrow (by rw [World.size_alloc]; omega) fun r e => ⟨fun q => h3 (by rw [e, q]), .inr (by obtain ⟨cs, hcs⟩ := own_typed (h2.alloc (.cells #[.int .u8 x.1, .string x.2.1] 23)) r e; exact ⟨_, hcs, rfl⟩)⟩
    have s3 : Rf.Stays W0.heap.size (w.heap.size + 1 + 1) w1 (w1.setCell ⟨w.heap.size + 1, 0, none⟩ (.slice (some ⟨g', 0, none⟩) (pre.length + 1) cap')) := Rf.Stays.grown (grownBy_setCell' _ _ _) (by have := s1.size; have := s2.size; omega) fun r e => by cases e; exact ⟨by omega, .inl (by omega)⟩
    have s4 : Rf.Stays W0.heap.size (w.heap.size + 1 + 1) (w1.setCell ⟨w.heap.size + 1, 0, none⟩ (.slice (some ⟨g', 0, none⟩) (pre.length + 1) cap')) ((w1.setCell ⟨w.heap.size + 1, 0, none⟩ (.slice (some ⟨g', 0, none⟩) (pre.length + 1) cap')).setCell ⟨w.heap.size, 0, none⟩ (.string x.2.2)) := Rf.Stays.grown (grownBy_setCell' _ _ _) (by have := s1.size; have := s2.size; have := s3.size; omega) fun r e => by cases e; exact ⟨by omega, .inl (by omega)⟩
    have hfin : ((∃ v, Boxed ((w1.setCell ⟨w.heap.size + 1, 0, none⟩ (.slice (some ⟨g', 0, none⟩) (pre.length + 1) cap')).setCell ⟨w.heap.size, 0, none⟩ (.string x.2.2)) (w.heap.size + 1) 34 v ∧ ((w1.setCell ⟨w.heap.size + 1, 0, none⟩ (.slice (some ⟨g', 0, none⟩) (pre.length + 1) cap')).setCell ⟨w.heap.size, 0, none⟩ (.string x.2.2)).ownsRow w.heap.size 23 2 v (pre ++ [x]).length (cells2 (recs (pre ++ [x]))) ∧ v.ownBlock ≠ some (w.heap.size + 1 + 1)) ∧ Boxed ((w1.setCell ⟨w.heap.size + 1, 0, none⟩ (.slice (some ⟨g', 0, none⟩) (pre.length + 1) cap')).setCell ⟨w.heap.size, 0, none⟩ (.string x.2.2)) w.heap.size 9 (.string (lastOf a0 (pre ++ [x])))) ∧ Below w.heap.size w ((w1.setCell ⟨w.heap.size + 1, 0, none⟩ (.slice (some ⟨g', 0, none⟩) (pre.length + 1) cap')).setCell ⟨w.heap.size, 0, none⟩ (.string x.2.2)) := by
      refine ⟨⟨⟨_, hv2.other hne _, ?_, ?_⟩, ?_⟩, (h5.trans hb2).setCell (p := ⟨w.heap.size, 0, none⟩) (Nat.le_refl _) _⟩
      · rw [List.length_append, recs_snoc, cells2_snoc]
        exact hr2.kept (grownBy_setCell' _ _ _) (.inr (hs2.not_row (by decide) hr2).symm)
      · rcases hat with q | q
        · rw [q]; exact h3
        · rw [q]
          intro z
          have := Option.some.inj z
          omega
      · rw [lastOf_snoc]; exact hs2.set _
    have FIN := Aside0.mk hfin
    have STAY := Aside0.mk (((s1.trans s2).trans s3).trans s4)
    clear hfin s1 s2 s3 s4 hs1 hs2 hv1 hv2 hr2 hk2 hb2 h1 h2 h3 h4 h5 hown' hgrow hat HH
    gi_wp2_with fail
    exact ⟨STAY.out, FIN.out⟩
  case done =>
    rintro D xs W hD rfl ⟨⟨⟨v, h1, h2, h3⟩, h4⟩, h5⟩ hK
    have c1 := h1.cell
    have c4 := h4.cell
    have HH := Aside0.mk (And.intro h2 h5)
    have HK := Aside0.mk hK
    clear h1 h2 h3 h4 h5 hK hB0 bS bO bE HLEN HL
    generalize lastOf a0 xs = z at c4 HR0 HR4
    by_cases hz : z = ⟨#[]⟩
    · obtain ⟨q1, q2⟩ := HR0.out hz
      have Q := Aside0.mk (And.intro q1 q2)
      clear q1 q2
      subst hz
      gi_wp2_with fail
      refine ⟨by simp, .inl ⟨_, _, rfl, run_takeDeferred HK.out, ?_⟩⟩
      refine ⟨_, results_tmp2 rfl _ _ _, v, by rw [Q.out.2]; rfl, ⟨fun _ _ => trivial, cells2 (recs xs), ?_, ?_⟩, HH.out.2.trans (belowK_b (w := w) (Nat.le_refl _) W D _ _ (by omega) HK.out rfl rfl)⟩
      · rw [Q.out.1, List.nil_append, recs_len]
        exact ownsRow_putObj HH.out.1 _ HK.out rfl
      · rw [Q.out.1, List.nil_append]
        exact reps_all _ _ _ _
    · obtain ⟨q1, q2⟩ := HR4.out hz
      have hze := not_empty hz
      have Q := Aside0.mk (And.intro q1 q2)
      clear q1 q2 hz
      gi_wp2_with fail
      refine ⟨by simp, .inl ⟨_, _, rfl, run_takeDeferred HK.out, ?_⟩⟩
      refine ⟨_, results_tmp2 rfl _ _ _, .slice none 0 0, by rw [Q.out.2]; rfl, by rw [Q.out.1]; exact Kd.R_nil _ _ _ _ _, HH.out.2.trans (belowK_b (w := w) (Nat.le_refl _) W D _ _ (by omega) HK.out rfl rfl)⟩

end Go.Proofs.Ytapdnkmaklpoeaa.PTell
