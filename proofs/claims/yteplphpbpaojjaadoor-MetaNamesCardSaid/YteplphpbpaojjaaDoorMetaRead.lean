/- meta.Read and what it asks: their contracts. -/
import Derived.Test.YteplphpbpaojjaaDoorMetaTake
import Derived.Deep.CutBlock
namespace Go.Proofs.YteplphpbpaojjaaDoor.Me
open Go.RowKit Go.Lib Go.Proofs.YteplphpbpaojjaaDoorW.PrintWords Go.Proofs.YteplphpbpaojjaaDoorW.PrintLast Go.Proofs.YteplphpbpaojjaaDoorW.PrintMore
set_option linter.unusedVariables false
set_option linter.unusedSimpArgs false
section
variable {P : Program} {ops : Array Oper} {Q : Exit → Act → World → Prop}
/-- A call of a function value in a drawn region. -/
theorem goesV_ {oi : Oper} {N : Option Tmp} {a : Act} {w : World} {K : Act → World → Prop} {f : FuncId} {fn : Func} {cv : Operand} {az : Array Operand} {ts : Array TypeId} {lb : Array Value} (hf : P.funcs[f]? = some fn) (hname : (fn.name == "runtime.NumGoroutine") = false) (hb : fn.body.isSome = true) (args : Array Value)
    (hw : Region.wanted oi (yielded ops a.tmps) = true) (hN : oi.dst = N) (hop : oi.op = .call { callee := .value cv, args := az, argTypes := ts }) (hcv : a.eval cv = .func (.func f) #[] lb) (hargs : az.map a.eval ++ lb = args)
    (h : Calls P f args w fun e w' => ∃ v, e = .returned v ∧ K (a.put N v) w') : if Region.wanted oi (yielded ops a.tmps) = true then Oper.wp P oi a w K Q else K (a.put N undef) w := by
  refine call_ f args hw hN ?_ h
  have he := enters_ hf hname hb args w
  unfold execOp
  simp [hop, resolve, Deferred.ofValue, invoke, hcv, hargs, he]
end
/-- What is said of a file, but its name, may be. -/
def restB (mo ti sz : Int) (su : ByteArray) : Bool := decide (0 ≤ mo ∧ mo ≤ 65535 ∧ 0 ≤ ti ∧ ti ≤ 1099511627776 ∧ 0 ≤ sz ∧ sz ≤ 32768 ∧ su.size = 32)
set_option maxHeartbeats 1000000 in
theorem rest_calls (nm : ByteArray) (mo ti sz : Int) (su : ByteArray) (w : World) :
    Calls Tryd.prog 29 #[.agg #[.string nm, .int .i64 mo, .int .i64 ti, .int .i64 sz, .string su]] w fun e w' => e = .returned (.bool (restB mo ti sz su)) ∧ Below w.heap.size w w' := by
  by_cases h0 : (0 : Int) ≤ mo
  rotate_left
  · have d0 : decide ((0 : Int) ≤ mo) = false := decide_eq_false h0
    have HV := Aside0.mk (show restB mo ti sz su = false from decide_eq_false fun h => h0 h.1)
    go_enter Tryd.func29, Tryd.ntmps29
    go_wp2_with fail
    go_ret
    rw [HV.out]
    exact ⟨rfl, below_alloc (Below.refl _ w) _⟩
  by_cases h1 : mo ≤ 65535
  rotate_left
  · have d1 : decide (mo ≤ 65535) = false := decide_eq_false h1
    have d0 : decide ((0 : Int) ≤ mo) = true := decide_eq_true h0
    have HV := Aside0.mk (show restB mo ti sz su = false from decide_eq_false fun h => h1 h.2.1)
    go_enter Tryd.func29, Tryd.ntmps29
    go_wp2_with fail
    go_ret
    rw [HV.out]
    exact ⟨rfl, below_alloc (Below.refl _ w) _⟩
  by_cases h2 : (0 : Int) ≤ ti
  rotate_left
  · have d2 : decide ((0 : Int) ≤ ti) = false := decide_eq_false h2
    have d0 : decide ((0 : Int) ≤ mo) = true := decide_eq_true h0
    have d1 : decide (mo ≤ 65535) = true := decide_eq_true h1
    have HV := Aside0.mk (show restB mo ti sz su = false from decide_eq_false fun h => h2 h.2.2.1)
    go_enter Tryd.func29, Tryd.ntmps29
    go_wp2_with fail
    go_ret
    rw [HV.out]
    exact ⟨rfl, below_alloc (Below.refl _ w) _⟩
  by_cases h3 : ti ≤ 1099511627776
  rotate_left
  · have d3 : decide (ti ≤ 1099511627776) = false := decide_eq_false h3
    have d0 : decide ((0 : Int) ≤ mo) = true := decide_eq_true h0
    have d1 : decide (mo ≤ 65535) = true := decide_eq_true h1
    have d2 : decide ((0 : Int) ≤ ti) = true := decide_eq_true h2
    have HV := Aside0.mk (show restB mo ti sz su = false from decide_eq_false fun h => h3 h.2.2.2.1)
    go_enter Tryd.func29, Tryd.ntmps29
    go_wp2_with fail
    go_ret
    rw [HV.out]
    exact ⟨rfl, below_alloc (Below.refl _ w) _⟩
  by_cases h4 : (0 : Int) ≤ sz
  rotate_left
  · have d4 : decide ((0 : Int) ≤ sz) = false := decide_eq_false h4
    have d0 : decide ((0 : Int) ≤ mo) = true := decide_eq_true h0
    have d1 : decide (mo ≤ 65535) = true := decide_eq_true h1
    have d2 : decide ((0 : Int) ≤ ti) = true := decide_eq_true h2
    have d3 : decide (ti ≤ 1099511627776) = true := decide_eq_true h3
    have HV := Aside0.mk (show restB mo ti sz su = false from decide_eq_false fun h => h4 h.2.2.2.2.1)
    go_enter Tryd.func29, Tryd.ntmps29
    go_wp2_with fail
    go_ret
    rw [HV.out]
    exact ⟨rfl, below_alloc (Below.refl _ w) _⟩
  by_cases h5 : sz ≤ 32768
  rotate_left
  · have d5 : decide (sz ≤ 32768) = false := decide_eq_false h5
    have d0 : decide ((0 : Int) ≤ mo) = true := decide_eq_true h0
    have d1 : decide (mo ≤ 65535) = true := decide_eq_true h1
    have d2 : decide ((0 : Int) ≤ ti) = true := decide_eq_true h2
    have d3 : decide (ti ≤ 1099511627776) = true := decide_eq_true h3
    have d4 : decide ((0 : Int) ≤ sz) = true := decide_eq_true h4
    have HV := Aside0.mk (show restB mo ti sz su = false from decide_eq_false fun h => h5 h.2.2.2.2.2.1)
    go_enter Tryd.func29, Tryd.ntmps29
    go_wp2_with fail
    go_ret
    rw [HV.out]
    exact ⟨rfl, below_alloc (Below.refl _ w) _⟩
  by_cases h6 : su.size = 32
  rotate_left
  · have d6 : ((su.size : Int) == 32) = false := beq_eq_false_iff_ne.mpr (by omega)
    have d0 : decide ((0 : Int) ≤ mo) = true := decide_eq_true h0
    have d1 : decide (mo ≤ 65535) = true := decide_eq_true h1
    have d2 : decide ((0 : Int) ≤ ti) = true := decide_eq_true h2
    have d3 : decide (ti ≤ 1099511627776) = true := decide_eq_true h3
    have d4 : decide ((0 : Int) ≤ sz) = true := decide_eq_true h4
    have d5 : decide (sz ≤ 32768) = true := decide_eq_true h5
    have HV := Aside0.mk (show restB mo ti sz su = false from decide_eq_false fun h => h6 h.2.2.2.2.2.2)
    clear h6
    go_enter Tryd.func29, Tryd.ntmps29
    go_wp2_with fail
    go_ret
    rw [HV.out]
    exact ⟨rfl, below_alloc (Below.refl _ w) _⟩
  have d6 : ((su.size : Int) == 32) = true := beq_iff_eq.mpr (by omega)
  have d0 : decide ((0 : Int) ≤ mo) = true := decide_eq_true h0
  have d1 : decide (mo ≤ 65535) = true := decide_eq_true h1
  have d2 : decide ((0 : Int) ≤ ti) = true := decide_eq_true h2
  have d3 : decide (ti ≤ 1099511627776) = true := decide_eq_true h3
  have d4 : decide ((0 : Int) ≤ sz) = true := decide_eq_true h4
  have d5 : decide (sz ≤ 32768) = true := decide_eq_true h5
  have HV := Aside0.mk (show restB mo ti sz su = true from decide_eq_true ⟨h0, h1, h2, h3, h4, h5, h6⟩)
  clear h6
  go_enter Tryd.func29, Tryd.ntmps29
  go_wp2_with fail
  go_ret
  rw [HV.out]
  exact ⟨rfl, below_alloc (Below.refl _ w) _⟩
/-- What is said of a file may be. -/
def mayB (nm : ByteArray) (mo ti sz : Int) (su : ByteArray) : Bool := nameL nm.data.toList && restB mo ti sz su
set_option maxHeartbeats 1000000 in
theorem may_calls (nm : ByteArray) (mo ti sz : Int) (su : ByteArray) (w : World) (hT : Tabs w) :
    Calls Tryd.prog 14 #[.agg #[.string nm, .int .i64 mo, .int .i64 ti, .int .i64 sz, .string su]] w fun e w' => e = .returned (.bool (mayB nm mo ti sz su)) ∧ Below w.heap.size w w' := by
  have HT := Aside0.mk hT
  clear hT
  unfold mayB
  have HN := Aside0.mk (fun W (h : Tabs W) => name_calls nm W h)
  have HR := Aside0.mk (fun W => rest_calls nm mo ti sz su W)
  generalize nameL nm.data.toList = b1 at HN ⊢
  generalize restB mo ti sz su = b2 at HR ⊢
  go_enter Tryd.func14, Tryd.ntmps14
  go_wp2_with fail
  have hB0 := below_alloc (Below.refl _ w) (.cells #[.string nm, .int .i64 mo, .int .i64 ti, .int .i64 sz, .string su] 25)
  have hk0 := blk_new w (.cells #[.string nm, .int .i64 mo, .int .i64 ti, .int .i64 sz, .string su] 25)
  generalize w.alloc (.cells #[.string nm, .int .i64 mo, .int .i64 ti, .int .i64 sz, .string su] 25) = W0 at hB0 hk0 ⊢
  obtain ⟨Z, hZ⟩ : ∃ Z, Z = w.heap.size := ⟨_, rfl⟩
  rw [← hZ] at hk0 ⊢
  clear hZ
  have HB0 := Aside0.mk hB0
  have HK0 := Aside0.mk hk0
  clear hB0 hk0
  refine (HN.out _ (HT.out.below HB0.out)).mono ?_
  rintro e w1 ⟨rfl, hb⟩
  have HB1 := Aside0.mk (HB0.out.trans (hb.mono HB0.out.size))
  have hk1 : w1.heap[Z]? = _ := (hb.block Z (blk_lt HK0.out)).trans HK0.out
  have c0 := (blk_cell hk1 0).trans (rfl : _ = some (Value.string nm))
  have c1 := (blk_cell hk1 1).trans (rfl : _ = some (Value.int .i64 mo))
  have c2 := (blk_cell hk1 2).trans (rfl : _ = some (Value.int .i64 ti))
  have c3 := (blk_cell hk1 3).trans (rfl : _ = some (Value.int .i64 sz))
  have c4 := (blk_cell hk1 4).trans (rfl : _ = some (Value.string su))
  clear hb hk1 HK0 HB0 HN
  cases b1 with
  | true =>
    go_wp2_with fail
    refine (HR.out _).mono ?_
    rintro e w2 ⟨rfl, hb⟩
    have HB2 := Aside0.mk (HB1.out.trans (hb.mono HB1.out.size))
    clear hb c0 c1 c2 c3 c4
    go_wp2_with fail
    go_ret
    exact ⟨rfl, HB2.out⟩
  | false =>
    go_wp2_with fail
    go_ret
    exact ⟨rfl, HB1.out⟩
/-- What is read: the states, one behind the other. -/
def num (s : ByteArray) (u n : Nat) : Int := IntKind.i64.wrap (beL (bytesOf (takeT s u n)))
theorem num_one (s : ByteArray) (u : Nat) : ∃ k : Nat, num s u 1 = (k : Int) ∧ k ≤ 255 := by
  unfold num takeT
  by_cases h : u + 1 ≤ s.size
  · rw [if_pos h]
    have hz : (s.extract u (u + 1)).size = 1 := by rw [ByteArray.size_extract]; omega
    obtain ⟨h1, h2, h3⟩ := be_take (s.extract u (u + 1)) 0 (by omega)
    rw [List.take_of_length_le (by rw [bytesOf_length]; omega)] at h1
    have h0 : beL ((bytesOf (s.extract u (u + 1))).take 0) = 0 := rfl
    rw [h0] at h1
    generalize (bytesOf (s.extract u (u + 1))).getD 0 0 = x at h1 h2 h3
    refine ⟨x.toNat, ?_, by omega⟩
    rw [h1, IntKind.wrap_i64]
    omega
  · rw [if_neg h]
    exact ⟨0, by decide, by decide⟩
theorem takeU_le (s : ByteArray) (u n : Nat) (h : u ≤ s.size) : takeU s u n ≤ s.size := by unfold takeU; split <;> omega
/-- What Read tells: what is said, how many bytes, the error. -/
structure Ans where
  nm : ByteArray
  mo : Int
  ti : Int
  sz : Int
  su : ByteArray
  used : Nat
  e : Int
def readA (s : ByteArray) : Ans :=
  if (((((false || takeB s 0 1) || takeB s (takeU s 0 1) (num s 0 1).toNat) || takeB s (takeU s (takeU s 0 1) (num s 0 1).toNat) 2) || takeB s (takeU s (takeU s (takeU s 0 1) (num s 0 1).toNat) 2) 8) || takeB s (takeU s (takeU s (takeU s (takeU s 0 1) (num s 0 1).toNat) 2) 8) 4 || takeB s (takeU s (takeU s (takeU s (takeU s (takeU s 0 1) (num s 0 1).toNat) 2) 8) 4) 32) = true then ⟨⟨#[]⟩, 0, 0, 0, ⟨#[]⟩, 0, 4⟩
  else if mayB (takeT s (takeU s 0 1) (num s 0 1).toNat) (num s (takeU s (takeU s 0 1) (num s 0 1).toNat) 2) (num s (takeU s (takeU s (takeU s 0 1) (num s 0 1).toNat) 2) 8) (num s (takeU s (takeU s (takeU s (takeU s 0 1) (num s 0 1).toNat) 2) 8) 4) (takeT s (takeU s (takeU s (takeU s (takeU s (takeU s 0 1) (num s 0 1).toNat) 2) 8) 4) 32) = true then
    ⟨takeT s (takeU s 0 1) (num s 0 1).toNat, num s (takeU s (takeU s 0 1) (num s 0 1).toNat) 2, num s (takeU s (takeU s (takeU s 0 1) (num s 0 1).toNat) 2) 8, num s (takeU s (takeU s (takeU s (takeU s 0 1) (num s 0 1).toNat) 2) 8) 4, takeT s (takeU s (takeU s (takeU s (takeU s (takeU s 0 1) (num s 0 1).toNat) 2) 8) 4) 32, takeU s (takeU s (takeU s (takeU s (takeU s (takeU s 0 1) (num s 0 1).toNat) 2) 8) 4) 32, 0⟩
  else ⟨⟨#[]⟩, 0, 0, 0, ⟨#[]⟩, 0, 4⟩
theorem Rd.made (w : World) (s : ByteArray) (o1 o2 o3 o4 o5 : Obj) (h1 : o1 = .cells #[.string s] 9 (0, 0)) (h2 : o2 = .cells #[.string ⟨#[]⟩, .int .i64 0, .int .i64 0, .int .i64 0, .string ⟨#[]⟩] 25 (0, 0)) (h3 : o3 = .cells #[.int .i64 0] 3 (0, 0)) (h4 : o4 = .cells #[.bool false] 4 (0, 0))
    (h5 : o5 = .cells #[.func (.func 32) #[] #[.pointer (some ⟨w.heap.size, 0, none⟩), .pointer (some ⟨w.heap.size + 2, 0, none⟩), .pointer (some ⟨w.heap.size + 3, 0, none⟩)]] 50 (0, 0)) :
    Rd w (((((w.alloc o1).alloc o2).alloc o3).alloc o4).alloc o5) w.heap.size s ⟨#[]⟩ 0 0 0 ⟨#[]⟩ 0 false := by
  have z1 : (w.alloc o1).heap.size = w.heap.size + 1 := by simp
  have z2 : ((w.alloc o1).alloc o2).heap.size = w.heap.size + 2 := by simp
  have z3 : (((w.alloc o1).alloc o2).alloc o3).heap.size = w.heap.size + 3 := by simp
  have z4 : ((((w.alloc o1).alloc o2).alloc o3).alloc o4).heap.size = w.heap.size + 4 := by simp
  have b1 := blk_new w o1
  have b2 := blk_new (w.alloc o1) o2
  have b3 := blk_new ((w.alloc o1).alloc o2) o3
  have b4 := blk_new (((w.alloc o1).alloc o2).alloc o3) o4
  have b5 := blk_new ((((w.alloc o1).alloc o2).alloc o3).alloc o4) o5
  rw [z1] at b2
  rw [z2] at b3
  rw [z3] at b4
  rw [z4] at b5
  have a2 : ∀ k, k < w.heap.size + 1 → ((w.alloc o1).alloc o2).heap[k]? = (w.alloc o1).heap[k]? := fun k hk => Below.heap_alloc _ _ _ (by rw [z1]; exact hk)
  have a3 : ∀ k, k < w.heap.size + 2 → (((w.alloc o1).alloc o2).alloc o3).heap[k]? = ((w.alloc o1).alloc o2).heap[k]? := fun k hk => Below.heap_alloc _ _ _ (by rw [z2]; exact hk)
  have a4 : ∀ k, k < w.heap.size + 3 → ((((w.alloc o1).alloc o2).alloc o3).alloc o4).heap[k]? = (((w.alloc o1).alloc o2).alloc o3).heap[k]? := fun k hk => Below.heap_alloc _ _ _ (by rw [z3]; exact hk)
  have a5 : ∀ k, k < w.heap.size + 4 → (((((w.alloc o1).alloc o2).alloc o3).alloc o4).alloc o5).heap[k]? = ((((w.alloc o1).alloc o2).alloc o3).alloc o4).heap[k]? := fun k hk => Below.heap_alloc _ _ _ (by rw [z4]; exact hk)
  refine ⟨?_, ?_, ?_, ?_, ?_, below_alloc (below_alloc (below_alloc (below_alloc (below_alloc (Below.refl _ w) _) _) _) _) _, Nat.le_refl _⟩
  · rw [a5 _ (by omega), a4 _ (by omega), a3 _ (by omega), a2 _ (by omega), b1, h1]
  · rw [a5 _ (by omega), a4 _ (by omega), a3 _ (by omega), b2, h2]
  · rw [a5 _ (by omega), a4 _ (by omega), b3, h3]; rfl
  · rw [a5 _ (by omega), b4, h4]
  · rw [b5, h5]
set_option maxHeartbeats 4000000 in
set_option maxRecDepth 100000 in
theorem read_calls (s : ByteArray) (w : World) (hT : Tabs w) (hs : s.size ≤ 1000000000000000) :
    Calls Tryd.prog 17 #[.string s] w fun e w' => e = .returned (.tuple #[.agg #[.string (readA s).nm, .int .i64 (readA s).mo, .int .i64 (readA s).ti, .int .i64 (readA s).sz, .string (readA s).su], .int .i64 ((readA s).used : Int), .int .i64 (readA s).e]) ∧ Below w.heap.size w w' := by
  have HT := Aside0.mk hT
  clear hT
  obtain ⟨R, hR⟩ : ∃ R, R = readA s := ⟨_, rfl⟩
  rw [← hR]
  unfold readA at hR
  obtain ⟨n0, hn0, hn1⟩ := num_one s 0
  rw [hn0, Int.toNat_natCast] at hR
  have hu1 := takeU_le s 0 1 (Nat.zero_le _)
  have hu2 := takeU_le s _ n0 hu1
  have hu3 := takeU_le s _ 2 hu2
  have hu4 := takeU_le s _ 8 hu3
  have hu5 := takeU_le s _ 4 hu4
  have hu6 := takeU_le s _ 32 hu5
  have HN0 := Aside0.mk hn0
  have HRR := Aside0.mk hR
  clear hn0 hR
  obtain ⟨B, hB⟩ : ∃ B, B = w.heap.size := ⟨_, rfl⟩
  go_enter Tryd.func17, Tryd.ntmps17
  go_upto_region 4 with fail
  have R0 := Aside0.mk (Rd.made w s _ _ _ _ _ rfl rfl rfl rfl rfl)
  rw [show w.heap.size + 1 + 1 + 1 + 1 = w.heap.size + 4 from rfl, show w.heap.size + 1 + 1 + 1 = w.heap.size + 3 from rfl, show w.heap.size + 1 + 1 = w.heap.size + 2 from rfl]
  rw [← hB] at R0 ⊢
  generalize ((((w.alloc (.cells #[.string s] 9)).alloc (.cells #[.string ⟨#[]⟩, .int .i64 0, .int .i64 0, .int .i64 0, .string ⟨#[]⟩] 25)).alloc (.cells #[.int .i64 0] 3)).alloc (.cells #[.bool false] 4)).alloc (.cells #[.func (.func 32) #[] #[.pointer (some ⟨B, 0, none⟩), .pointer (some ⟨B + 2, 0, none⟩), .pointer (some ⟨B + 3, 0, none⟩)]] 50) = W0 at R0 ⊢
  clear hB
  have R1 := Aside0.mk R0.out.drew
  have G1 := get_calls R1.out 1 (Nat.zero_le _) hs (by decide)
  rw [show ((1 : Nat) : Int) = 1 from rfl] at G1
  have G2 := Aside0.mk G1
  clear R0 G1
  refine start_ (n := 6) (S := fun w' => w'.cell? ⟨B + 4, 0, none⟩ = some (.func (.func 32) #[] #[.pointer (some ⟨B, 0, none⟩), .pointer (some ⟨B + 2, 0, none⟩), .pointer (some ⟨B + 3, 0, none⟩)])) (ds := [5]) #[false, false, false, false, false, false] (by kernel_rfl) rfl rfl ((blk_cell R1.out.t_ 0).trans rfl) (fun hHeld => ?_)
  refine pure_ (i := 1) (N := some 11) (v := ?_) (a' := ?_) #[false, true, false, false, false, false] rfl rfl (by kernel_rfl) (fun _ _ _ h => h) (Or.inl ⟨by rfl, ?_⟩) ?_ ?_
  rotate_left
  · intro w'
    go_simp
    with_reducible rfl
  rotate_left
  · simp only [Act.put, List.setIfInBounds_toArray, List.set_cons_zero, List.set_cons_succ, i64_w, i32_w]
    rfl
  refine take_ (i := 0) (N := some 10) (v := ?_) (a' := ?_) #[true, true, false, false, false, false] rfl rfl (by kernel_rfl) (fun _ _ _ h => h) (Or.inl ⟨by rfl, ?_⟩) hHeld ?_ ?_
  rotate_left
  · intro w' s0
    go_simp
    with_reducible rfl
  rotate_left
  · simp only [Act.put, List.setIfInBounds_toArray, List.set_cons_zero, List.set_cons_succ, i64_w, i32_w]
    rfl
  refine one_ (i := 2) (N := some 12) #[true, true, true, false, false, false] rfl rfl (by kernel_rfl) (by decide) (fun K hK => ?_)
  refine goesV_ (lb := #[.pointer (some ⟨B + 4, 0, none⟩)]) Tryd.func33 (by kernel_rfl) rfl #[.int .i64 1, .pointer (some ⟨B + 4, 0, none⟩)] (by rfl) rfl rfl (by rfl) (by first | rfl | (simp; done) | (simp; rfl)) ?_
  with_reducible refine (G2.out).mono ?_
  rintro e w1 ⟨rfl, h2⟩
  refine ⟨_, rfl, ?_⟩
  have R2 := Aside0.mk h2
  rw [show IntKind.i64.wrap (beL (bytesOf (takeT s 0 1))) = (n0 : Int) from HN0.out]
  clear h2
  refine hK.out _ _ ((blk_cell R2.out.t_ 0).trans rfl) (fun hHeld => ?_)
  clear hK K
  refine norm_ (a' := ?_) ?_ ?_
  rotate_left
  · show Act.put _ (some 12) _ = _
    simp only [Act.put, List.setIfInBounds_toArray, List.set_cons_zero, List.set_cons_succ, i64_w, i32_w]
    rfl
  refine one_ (i := 3) (N := some 13) #[true, true, true, true, false, false] rfl rfl (by kernel_rfl) (by decide) (fun K hK => ?_)
  refine goesV_ (lb := #[.pointer (some ⟨B, 0, none⟩), .pointer (some ⟨B + 2, 0, none⟩), .pointer (some ⟨B + 3, 0, none⟩)]) Tryd.func32 (by kernel_rfl) rfl #[.int .i64 (n0 : Int), .pointer (some ⟨B, 0, none⟩), .pointer (some ⟨B + 2, 0, none⟩), .pointer (some ⟨B + 3, 0, none⟩)] (by rfl) rfl rfl (by rfl) (by first | rfl | (simp; done) | (simp; rfl)) ?_
  with_reducible refine (take_calls R2.out n0 hu1 hs (by omega)).mono ?_
  rintro e w2 ⟨rfl, h3⟩
  refine ⟨_, rfl, ?_⟩
  have R3 := Aside0.mk h3
  have m0 := (blk_cell R3.out.m_ 0).trans (rfl : _ = some (Value.string ⟨#[]⟩))
  have z0 := blk_frozen R3.out.m_ 0
  clear h3
  refine hK.out _ _ ((blk_cell R3.out.t_ 0).trans rfl) (fun hHeld => ?_)
  clear hK K
  refine norm_ (a' := ?_) ?_ ?_
  rotate_left
  · show Act.put _ (some 13) _ = _
    simp only [Act.put, List.setIfInBounds_toArray, List.set_cons_zero, List.set_cons_succ, i64_w, i32_w]
    rfl
  refine pure_ (i := 4) (N := some 14) (v := ?_) (a' := ?_) #[true, true, true, true, true, false] rfl rfl (by kernel_rfl) (fun _ _ _ h => h) (Or.inl ⟨by rfl, ?_⟩) ?_ ?_
  rotate_left
  · intro w'
    go_simp
    with_reducible rfl
  rotate_left
  · simp only [Act.put, List.setIfInBounds_toArray, List.set_cons_zero, List.set_cons_succ, i64_w, i32_w]
    rfl
  refine last_ (i := 5) (N := none) #[true, true, true, true, true, true] rfl rfl (by kernel_rfl) (by decide) (fun K hK => ?_)
  refine skip_ (w1 := ?_) (by rfl) rfl ?_ ?_
  rotate_left
  · go_simp
    rfl
  refine hK.out _ _ ?_
  clear hK K
  refine done_ (by kernel_rfl) ?_
  have R4 := Aside0.mk (R3.out.set0 (takeT s (takeU s 0 1) n0))
  clear R1 R2 R3 G2 m0 z0 hHeld
  generalize w2.setCell ⟨B + 1, 0, none⟩ (.string (takeT s (takeU s 0 1) n0)) = W4 at R4 ⊢
  obtain ⟨nm, hnm⟩ : ∃ nm, nm = takeT s (takeU s 0 1) n0 := ⟨_, rfl⟩
  rw [← hnm] at R4 HRR
  clear hnm
  have G1 := get_calls R4.out 2 hu2 hs (by decide)
  rw [show ((2 : Nat) : Int) = 2 from rfl] at G1
  have G2 := Aside0.mk G1
  clear G1
  go_wp2_with fail
  refine G2.out.mono ?_
  rintro e w5 ⟨rfl, h5⟩
  have R5 := Aside0.mk h5
  have G1 := get_calls h5 8 hu3 hs (by decide)
  rw [show ((8 : Nat) : Int) = 8 from rfl] at G1
  clear R4 G2 h5
  have G2 := Aside0.mk G1
  clear G1
  rw [show IntKind.i64.wrap (beL (bytesOf (takeT s (takeU s (takeU s 0 1) n0) 2))) = num s (takeU s (takeU s 0 1) n0) 2 from rfl]
  generalize num s (takeU s (takeU s 0 1) n0) 2 = mo at HRR ⊢
  go_wp2_with fail
  refine G2.out.mono ?_
  rintro e w6 ⟨rfl, h6⟩
  have R6 := Aside0.mk h6
  have G1 := get_calls h6 4 hu4 hs (by decide)
  rw [show ((4 : Nat) : Int) = 4 from rfl] at G1
  clear R5 G2 h6
  have G2 := Aside0.mk G1
  clear G1
  rw [show IntKind.i64.wrap (beL (bytesOf (takeT s (takeU s (takeU s (takeU s 0 1) n0) 2) 8))) = num s (takeU s (takeU s (takeU s 0 1) n0) 2) 8 from rfl]
  generalize num s (takeU s (takeU s (takeU s 0 1) n0) 2) 8 = ti at HRR ⊢
  go_wp2_with fail
  refine G2.out.mono ?_
  rintro e w7 ⟨rfl, h7⟩
  rw [show IntKind.i64.wrap (beL (bytesOf (takeT s (takeU s (takeU s (takeU s (takeU s 0 1) n0) 2) 8) 4))) = num s (takeU s (takeU s (takeU s (takeU s 0 1) n0) 2) 8) 4 from rfl]
  generalize num s (takeU s (takeU s (takeU s (takeU s 0 1) n0) 2) 8) 4 = sz at HRR ⊢
  have m1 := (blk_cell h7.m_ 1).trans (rfl : _ = some (Value.int .i64 0))
  have m2 := (blk_cell h7.m_ 2).trans (rfl : _ = some (Value.int .i64 0))
  have m3 := (blk_cell h7.m_ 3).trans (rfl : _ = some (Value.int .i64 0))
  have f1 := blk_frozen h7.m_ 1
  have f2 := blk_frozen h7.m_ 2
  have f3 := blk_frozen h7.m_ 3
  have R8 := Aside0.mk (((h7.set1 mo).set2 ti).set3 sz)
  clear R6 G2 h7
  go_upto_region 6 with fail
  generalize ((w7.setCell ⟨B + 1, 1, none⟩ (.int .i64 mo)).setCell ⟨B + 1, 2, none⟩ (.int .i64 ti)).setCell ⟨B + 1, 3, none⟩ (.int .i64 sz) = W8 at R8 ⊢
  clear m1 m2 m3 f1 f2 f3
  have c4 := (blk_cell R8.out.t_ 0).trans (rfl : _ = some (Value.func (.func 32) #[] #[.pointer (some ⟨B, 0, none⟩), .pointer (some ⟨B + 2, 0, none⟩), .pointer (some ⟨B + 3, 0, none⟩)]))
  have G1 := take_calls R8.out 32 hu5 hs (by decide)
  rw [show ((32 : Nat) : Int) = 32 from rfl] at G1
  have G2 := Aside0.mk G1
  clear G1
  go_wp2_with fail
  refine G2.out.mono ?_
  rintro e w9 ⟨rfl, h9⟩
  have m4 := (blk_cell h9.m_ 4).trans (rfl : _ = some (Value.string ⟨#[]⟩))
  have f4 := blk_frozen h9.m_ 4
  have R9 := Aside0.mk (h9.set4 (takeT s (takeU s (takeU s (takeU s (takeU s (takeU s 0 1) n0) 2) 8) 4) 32))
  clear R8 G2 h9 c4
  generalize takeT s (takeU s (takeU s (takeU s (takeU s (takeU s 0 1) n0) 2) 8) 4) 32 = su at HRR R9 ⊢
  generalize takeU s (takeU s (takeU s (takeU s (takeU s (takeU s 0 1) n0) 2) 8) 4) 32 = ue at HRR R9 hu6 ⊢
  generalize (((((false || takeB s 0 1) || takeB s (takeU s 0 1) n0) || takeB s (takeU s (takeU s 0 1) n0) 2) || takeB s (takeU s (takeU s (takeU s 0 1) n0) 2) 8) || takeB s (takeU s (takeU s (takeU s (takeU s 0 1) n0) 2) 8) 4 || takeB s (takeU s (takeU s (takeU s (takeU s (takeU s 0 1) n0) 2) 8) 4) 32) = bd at HRR R9
  go_upto_region 7 with fail
  generalize w9.setCell ⟨B + 1, 4, none⟩ (.string su) = W9 at R9 ⊢
  clear m4 f4
  have c0 := (blk_cell R9.out.m_ 0).trans (rfl : _ = some (Value.string nm))
  have c1 := (blk_cell R9.out.m_ 1).trans (rfl : _ = some (Value.int .i64 mo))
  have c2 := (blk_cell R9.out.m_ 2).trans (rfl : _ = some (Value.int .i64 ti))
  have c3 := (blk_cell R9.out.m_ 3).trans (rfl : _ = some (Value.int .i64 sz))
  have c4 := (blk_cell R9.out.m_ 4).trans (rfl : _ = some (Value.string su))
  have b0 := (blk_cell R9.out.b_ 0).trans (rfl : _ = some (Value.bool bd))
  cases bd with
  | true =>
    have HE := Aside0.mk (show R = ⟨⟨#[]⟩, 0, 0, 0, ⟨#[]⟩, 0, 4⟩ by have := HRR.out; rw [if_pos rfl] at this; exact this)
    clear HRR
    have z0 := blk_frozen R9.out.m_ 0
    have z1 := blk_frozen R9.out.m_ 1
    have z2 := blk_frozen R9.out.m_ 2
    have z3 := blk_frozen R9.out.m_ 3
    have z4 := blk_frozen R9.out.m_ 4
    have u0 := (blk_cell R9.out.u_ 0).trans (rfl : _ = some (Value.int .i64 (ue : Int)))
    have y0 := blk_frozen R9.out.u_ 0
    have R10 := Aside0.mk ((((((R9.out.set0 ⟨#[]⟩).set1 0).set2 0).set3 0).set4 ⟨#[]⟩).setU 0)
    clear R9
    go_wp2_with fail
    generalize ((((((W9.setCell ⟨B + 1, 0, none⟩ (.string ⟨#[]⟩)).setCell ⟨B + 1, 1, none⟩ (.int .i64 0)).setCell ⟨B + 1, 2, none⟩ (.int .i64 0)).setCell ⟨B + 1, 3, none⟩ (.int .i64 0)).setCell ⟨B + 1, 4, none⟩ (.string ⟨#[]⟩)).setCell ⟨B + 2, 0, none⟩ (.int .i64 ((0 : Nat) : Int))) = WE at R10
    clear c0 c1 c2 c3 c4 z0 z1 z2 z3 z4 u0 y0
    have c0 := (blk_cell R10.out.m_ 0).trans (rfl : _ = some (Value.string ⟨#[]⟩))
    have c1 := (blk_cell R10.out.m_ 1).trans (rfl : _ = some (Value.int .i64 0))
    have c2 := (blk_cell R10.out.m_ 2).trans (rfl : _ = some (Value.int .i64 0))
    have c3 := (blk_cell R10.out.m_ 3).trans (rfl : _ = some (Value.int .i64 0))
    have c4 := (blk_cell R10.out.m_ 4).trans (rfl : _ = some (Value.string ⟨#[]⟩))
    have u0 := (blk_cell R10.out.u_ 0).trans (rfl : _ = some (Value.int .i64 0))
    refine bodyPost_ret (v := .tuple #[.agg #[.string ⟨#[]⟩, .int .i64 0, .int .i64 0, .int .i64 0, .string ⟨#[]⟩], .int .i64 0, .int .i64 4]) (by simp [results, Tryd.results17, go_sem, c0, c1, c2, c3, c4, u0]) rfl ⟨?_, R10.out.bel⟩
    rw [HE.out]
    rfl
  | false =>
    have HRR2 := Aside0.mk (show R = if mayB nm mo ti sz su = true then ⟨nm, mo, ti, sz, su, ue, 0⟩ else ⟨⟨#[]⟩, 0, 0, 0, ⟨#[]⟩, 0, 4⟩ by have := HRR.out; rw [if_neg (by decide)] at this; exact this)
    clear HRR
    have HM := Aside0.mk (may_calls nm mo ti sz su W9 (HT.out.below R9.out.bel))
    go_wp2_with fail
    refine HM.out.mono ?_
    rintro e wA ⟨rfl, hb⟩
    have RA := Aside0.mk (R9.out.below hb)
    clear hb HM c0 c1 c2 c3 c4 b0 R9
    have R9 := RA
    clear RA
    have c0 := (blk_cell R9.out.m_ 0).trans (rfl : _ = some (Value.string nm))
    have c1 := (blk_cell R9.out.m_ 1).trans (rfl : _ = some (Value.int .i64 mo))
    have c2 := (blk_cell R9.out.m_ 2).trans (rfl : _ = some (Value.int .i64 ti))
    have c3 := (blk_cell R9.out.m_ 3).trans (rfl : _ = some (Value.int .i64 sz))
    have c4 := (blk_cell R9.out.m_ 4).trans (rfl : _ = some (Value.string su))
    obtain ⟨mb, hmb⟩ : ∃ mb, mayB nm mo ti sz su = mb := ⟨_, rfl⟩
    rw [hmb] at HRR2 ⊢
    clear hmb
    cases mb with
    | false =>
      have HE := Aside0.mk (show R = ⟨⟨#[]⟩, 0, 0, 0, ⟨#[]⟩, 0, 4⟩ by have := HRR2.out; rw [if_neg (by decide)] at this; exact this)
      clear HRR2
      have z0 := blk_frozen R9.out.m_ 0
      have z1 := blk_frozen R9.out.m_ 1
      have z2 := blk_frozen R9.out.m_ 2
      have z3 := blk_frozen R9.out.m_ 3
      have z4 := blk_frozen R9.out.m_ 4
      have u0 := (blk_cell R9.out.u_ 0).trans (rfl : _ = some (Value.int .i64 (ue : Int)))
      have y0 := blk_frozen R9.out.u_ 0
      have R10 := Aside0.mk ((((((R9.out.set0 ⟨#[]⟩).set1 0).set2 0).set3 0).set4 ⟨#[]⟩).setU 0)
      clear R9
      go_wp2_with fail
      generalize ((((((wA.setCell ⟨B + 1, 0, none⟩ (.string ⟨#[]⟩)).setCell ⟨B + 1, 1, none⟩ (.int .i64 0)).setCell ⟨B + 1, 2, none⟩ (.int .i64 0)).setCell ⟨B + 1, 3, none⟩ (.int .i64 0)).setCell ⟨B + 1, 4, none⟩ (.string ⟨#[]⟩)).setCell ⟨B + 2, 0, none⟩ (.int .i64 ((0 : Nat) : Int))) = WE at R10
      clear c0 c1 c2 c3 c4 z0 z1 z2 z3 z4 u0 y0
      have c0 := (blk_cell R10.out.m_ 0).trans (rfl : _ = some (Value.string ⟨#[]⟩))
      have c1 := (blk_cell R10.out.m_ 1).trans (rfl : _ = some (Value.int .i64 0))
      have c2 := (blk_cell R10.out.m_ 2).trans (rfl : _ = some (Value.int .i64 0))
      have c3 := (blk_cell R10.out.m_ 3).trans (rfl : _ = some (Value.int .i64 0))
      have c4 := (blk_cell R10.out.m_ 4).trans (rfl : _ = some (Value.string ⟨#[]⟩))
      have u0 := (blk_cell R10.out.u_ 0).trans (rfl : _ = some (Value.int .i64 0))
      refine bodyPost_ret (v := .tuple #[.agg #[.string ⟨#[]⟩, .int .i64 0, .int .i64 0, .int .i64 0, .string ⟨#[]⟩], .int .i64 0, .int .i64 4]) (by simp [results, Tryd.results17, go_sem, c0, c1, c2, c3, c4, u0]) rfl ⟨?_, R10.out.bel⟩
      rw [HE.out]
      rfl
    | true =>
      have HE := Aside0.mk (show R = ⟨nm, mo, ti, sz, su, ue, 0⟩ by have := HRR2.out; rw [if_pos rfl] at this; exact this)
      clear HRR2
      go_upto_region 9 with fail
      clear c0 c1 c2 c3 c4
      have RD := Aside0.mk R9.out.drew
      have RB := Aside0.mk (((((RD.out.set0 nm).set1 mo).set2 ti).set3 sz).set4 su)
      have RC := Aside0.mk (RB.out.setU ue)
      clear R9
      refine start_ (n := 5) (S := fun w' => w'.cell? ⟨B + 1, 0, none⟩ = some (.string nm) ∧ w'.cell? ⟨B + 1, 1, none⟩ = some (.int .i64 mo) ∧ w'.cell? ⟨B + 1, 2, none⟩ = some (.int .i64 ti) ∧ w'.cell? ⟨B + 1, 3, none⟩ = some (.int .i64 sz) ∧ w'.cell? ⟨B + 1, 4, none⟩ = some (.string su) ∧ w'.cell? ⟨B + 2, 0, none⟩ = some (.int .i64 (ue : Int))) (ds := [3]) #[false, false, false, false, false] (by kernel_rfl) rfl rfl ⟨((blk_cell RD.out.m_ 0).trans rfl), ((blk_cell RD.out.m_ 1).trans rfl), ((blk_cell RD.out.m_ 2).trans rfl), ((blk_cell RD.out.m_ 3).trans rfl), ((blk_cell RD.out.m_ 4).trans rfl), ((blk_cell RD.out.u_ 0).trans rfl)⟩ (fun hHeld => ?_)
      generalize wA.drew = WD at RD RB RC hHeld ⊢
      refine take_ (i := 0) (N := some 34) (v := ?_) (a' := ?_) #[true, false, false, false, false] rfl rfl (by kernel_rfl) (fun _ _ _ h => h) (Or.inl ⟨by rfl, ?_⟩) hHeld ?_ ?_
      rotate_left
      · rintro w' ⟨s0, s1, s2, s3, s4, s5⟩
        go_simp
        with_reducible rfl
      rotate_left
      · simp only [Act.put, List.setIfInBounds_toArray, List.set_cons_zero, List.set_cons_succ, i64_w, i32_w]
        rfl
      refine take_ (i := 1) (N := some 35) (v := ?_) (a' := ?_) #[true, true, false, false, false] rfl rfl (by kernel_rfl) (fun _ _ _ h => h) (Or.inl ⟨by rfl, ?_⟩) hHeld ?_ ?_
      rotate_left
      · rintro w' ⟨s0, s1, s2, s3, s4, s5⟩
        go_simp
        with_reducible rfl
      rotate_left
      · simp only [Act.put, List.setIfInBounds_toArray, List.set_cons_zero, List.set_cons_succ, i64_w, i32_w]
        rfl
      refine one_ (i := 2) (N := none) #[true, true, true, false, false] rfl rfl (by kernel_rfl) (by decide) (fun K hK => ?_)
      have q0 := (blk_cell RD.out.m_ 0).trans (rfl : _ = some (Value.string nm))
      have q1 := (blk_cell RD.out.m_ 1).trans (rfl : _ = some (Value.int .i64 mo))
      have q2 := (blk_cell RD.out.m_ 2).trans (rfl : _ = some (Value.int .i64 ti))
      have q3 := (blk_cell RD.out.m_ 3).trans (rfl : _ = some (Value.int .i64 sz))
      have q4 := (blk_cell RD.out.m_ 4).trans (rfl : _ = some (Value.string su))
      have z0 := blk_frozen RD.out.m_ 0
      have z1 := blk_frozen RD.out.m_ 1
      have z2 := blk_frozen RD.out.m_ 2
      have z3 := blk_frozen RD.out.m_ 3
      have z4 := blk_frozen RD.out.m_ 4
      refine skip_ (w1 := ?_) (by rfl) rfl ?_ ?_
      rotate_left
      · go_simp
        rfl
      refine hK.out _ _ ⟨((blk_cell RB.out.m_ 0).trans rfl), ((blk_cell RB.out.m_ 1).trans rfl), ((blk_cell RB.out.m_ 2).trans rfl), ((blk_cell RB.out.m_ 3).trans rfl), ((blk_cell RB.out.m_ 4).trans rfl), ((blk_cell RB.out.u_ 0).trans rfl)⟩ (fun hHeld => ?_)
      clear hK K
      refine last_ (i := 3) (N := none) #[true, true, true, true, false] rfl rfl (by kernel_rfl) (by decide) (fun K hK => ?_)
      have q5 := (blk_cell RB.out.u_ 0).trans (rfl : _ = some (Value.int .i64 (ue : Int)))
      have z5 := blk_frozen RB.out.u_ 0
      refine skip_ (w1 := ?_) (by rfl) rfl ?_ ?_
      rotate_left
      · go_simp
        rfl
      refine hK.out _ _ ?_
      clear hK K
      refine pure_ (i := 4) (N := some 4) (v := ?_) (a' := ?_) #[true, true, true, true, true] rfl rfl (by kernel_rfl) (fun _ _ _ h => h) (Or.inl ⟨by rfl, ?_⟩) ?_ ?_
      rotate_left
      · intro w'
        go_simp
        with_reducible rfl
      rotate_left
      · simp only [Act.put, List.setIfInBounds_toArray, List.set_cons_zero, List.set_cons_succ, i64_w, i32_w]
        rfl
      refine done_ (by kernel_rfl) ?_
      go_wp2_with fail
      clear q0 q1 q2 q3 q4 q5 z0 z1 z2 z3 z4 z5 RD RB
      generalize (((((WD.setCell ⟨B + 1, 0, none⟩ (.string nm)).setCell ⟨B + 1, 1, none⟩ (.int .i64 mo)).setCell ⟨B + 1, 2, none⟩ (.int .i64 ti)).setCell ⟨B + 1, 3, none⟩ (.int .i64 sz)).setCell ⟨B + 1, 4, none⟩ (.string su)).setCell ⟨B + 2, 0, none⟩ (.int .i64 (ue : Int)) = WE at RC ⊢
      have c0 := (blk_cell RC.out.m_ 0).trans (rfl : _ = some (Value.string nm))
      have c1 := (blk_cell RC.out.m_ 1).trans (rfl : _ = some (Value.int .i64 mo))
      have c2 := (blk_cell RC.out.m_ 2).trans (rfl : _ = some (Value.int .i64 ti))
      have c3 := (blk_cell RC.out.m_ 3).trans (rfl : _ = some (Value.int .i64 sz))
      have c4 := (blk_cell RC.out.m_ 4).trans (rfl : _ = some (Value.string su))
      have u0 := (blk_cell RC.out.u_ 0).trans (rfl : _ = some (Value.int .i64 (ue : Int)))
      refine bodyPost_ret (v := .tuple #[.agg #[.string nm, .int .i64 mo, .int .i64 ti, .int .i64 sz, .string su], .int .i64 (ue : Int), .int .i64 0]) (by simp [results, Tryd.results17, go_sem, c0, c1, c2, c3, c4, u0]) rfl ⟨?_, RC.out.bel⟩
      rw [HE.out]
end Go.Proofs.YteplphpbpaojjaaDoor.Me
