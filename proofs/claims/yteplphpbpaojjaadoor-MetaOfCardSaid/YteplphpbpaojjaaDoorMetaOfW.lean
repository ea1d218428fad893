/- MetaOf: the walk and the plain law together. -/
import Derived.Test.YteplphpbpaojjaaDoorMetaPure
import Derived.Test.YteplphpbpaojjaaDoorPMax38
import Derived.Test.YteplphpbpaojjaaDoorPMax55
import Derived.Test.YteplphpbpaojjaaDoorMetaOfR0
import Derived.Test.YteplphpbpaojjaaDoorMetaOfR1
namespace Go.Proofs.YteplphpbpaojjaaDoor.Me
open Go.RowKit Go.Lib Go.Proofs.YteplphpbpaojjaaDoorW.PrintWords Go.Proofs.YteplphpbpaojjaaDoorW.PrintLast Go.Proofs.YteplphpbpaojjaaDoorW.PrintMore Go.Proofs.YteplphpbpaojjaaDoor.PMa Go.Proofs.YteplphpbpaojjaaDoor.Pb
set_option linter.unusedVariables false
set_option linter.unusedSimpArgs false
set_option maxRecDepth 100000 in
theorem ofworks_at : hamperlaw19_works.f 60 = some true := by decide +kernel
theorem ofworks_f (k : Nat) (h : 60 ≤ k) : hamperlaw19_works.f k = some true := at_rounds hamperlaw19_works.mono h ofworks_at
theorem of_sum (d : ByteArray) (h : d.size ≤ 140737488351232) : blake_Sum.f d = some (Bk.blakeSum d) := if_pos h
theorem of_f (nm : ByteArray) (mo ti : Int) (d : ByteArray) (h : d.size ≤ 140737488351232) : meta_Of.f nm mo ti d = some (nm, mo, ti, (d.size : Int), Bk.blakeSum d) := by
  unfold meta_Of.f
  exact bind_eq (of_sum d h) rfl
/-- The two comparisons, told of what is equal. -/
theorem of_last (A B C D E F : Bool) (hE : D = true → E = true) (hF : D = true → F = true) :
    (if (!A || (!B || (!C || (!E || !F)))) = true then some (!A || (!B || (!C || !D))) else if (A && (B && (C && D))) = true then some true else if D = true then some false else if E = true then some F else some false) = some true := by
  cases A <;> cases B <;> cases C <;> cases D <;> cases E <;> cases F <;> simp_all
theorem of_j2 (k : Nat) (nf : ByteArray) (mf tf : Int) (df ng : ByteArray) (mg tg : Int) (dg : ByteArray) (h1 : df.size ≤ 140737488351232) (h2 : dg.size ≤ 140737488351232) :
    hamperlaw19_MetaOf.j2 (k + 1) false nf mf tf df ng mg tg dg nf mf tf (df.size : Int) (Bk.blakeSum df) ng mg tg (dg.size : Int) (Bk.blakeSum dg) = some true := by
  rw [hamperlaw19_MetaOf.j2, if_neg (by decide)]
  have hsum : ((blake_Sum.f df).bind fun t168 => ((blake_Sum.f dg).bind fun t169 => (some (t168.toList == t169.toList)))) = some ((Bk.blakeSum df).toList == (Bk.blakeSum dg).toList) := by
    rw [of_sum df h1, of_sum dg h2]
    rfl
  rw [hsum]
  have h := of_last (nf.toList == ng.toList) (mf == mg) (tf == tg) (df.toList == dg.toList) ((df.size : Int) == (dg.size : Int)) ((Bk.blakeSum df).toList == (Bk.blakeSum dg).toList)
    (fun e => by rw [tl_iff.mp (eq_of_beq e)]; exact beq_self_eq_true _) (fun e => by rw [tl_iff.mp (eq_of_beq e)]; exact beq_self_eq_true _)
  generalize hs : (Bk.blakeSum df).toList = s1 at h ⊢
  generalize ht : (Bk.blakeSum dg).toList = s2 at h ⊢
  simp only [beq_iff_eq (a := df.toList) (b := dg.toList), beq_iff_eq (a := (df.size : Int)) (b := (dg.size : Int))] at h ⊢
  exact h
theorem of_j1 (k : Nat) (nf : ByteArray) (mf tf : Int) (df ng : ByteArray) (mg tg : Int) (dg : ByteArray) (h1 : df.size ≤ 5000) (h2 : dg.size ≤ 5000) :
    hamperlaw19_MetaOf.j1 (k + 2) false nf mf tf df ng mg tg dg nf mf tf (df.size : Int) (Bk.blakeSum df) ng mg tg (dg.size : Int) (Bk.blakeSum dg) = some true := by
  have hl := of_j2 k nf mf tf df ng mg tg dg (by omega) (by omega)
  rw [hamperlaw19_MetaOf.j1, if_neg (by decide)]
  refine bind_eq (may_f _ _ _ _ _) ?_
  refine bind_eq (name_f nf) ?_
  have hR : restB mf tf (df.size : Int) (Bk.blakeSum df) = decide (0 ≤ mf ∧ mf ≤ 65535 ∧ 0 ≤ tf ∧ tf ≤ 1099511627776) := by
    unfold restB
    rw [decide_eq_decide, Bk.blakeSum_size]
    omega
  generalize hq : Bk.blakeSum df = q at hl hR ⊢
  generalize hq2 : Bk.blakeSum dg = q2 at hl ⊢
  unfold mayB
  rw [hR]
  cases hN : nameL nf.data.toList with
  | false =>
    rw [if_neg (by decide), Bool.false_and]
    exact hl
  | true =>
    rw [if_pos rfl, Bool.true_and]
    by_cases c1 : mf ≥ 0
    · rw [if_pos c1]
      by_cases c2 : mf ≤ 65535
      · rw [if_pos c2]
        by_cases c3 : tf ≥ 0
        · rw [if_pos c3]
          have e : decide (0 ≤ mf ∧ mf ≤ 65535 ∧ 0 ≤ tf ∧ tf ≤ 1099511627776) = decide (tf ≤ 1099511627776) := by rw [decide_eq_decide]; omega
          rw [e, bne_self_eq_false]
          exact hl
        · rw [if_neg c3, decide_eq_false (by omega)]
          exact hl
      · rw [if_neg c2, decide_eq_false (by omega)]
        exact hl
    · rw [if_neg c1, decide_eq_false (by omega)]
      exact hl
theorem MetaOf (nf : ByteArray) (mf tf : Int) (df ng : ByteArray) (mg tg : Int) (dg : ByteArray) : hamperlaw19_MetaOf.f 70 nf mf tf df ng mg tg dg = some true := by
  unfold hamperlaw19_MetaOf.f
  refine bind_eq (ofworks_f 70 (by decide)) ?_
  refine (if_pos (show true = true from rfl)).trans ?_
  have hj : hamperlaw19_MetaOf.j0 70 true nf mf tf df ng mg tg dg = some true := by
    rw [hamperlaw19_MetaOf.j0]
    refine (if_pos (show true = true from rfl)).trans ?_
    exact bind_eq (ofworks_f 69 (by decide)) rfl
  by_cases h1 : (df.size : Int) > 5000
  · rw [if_pos h1]
    exact hj
  · rw [if_neg h1]
    by_cases h2 : (dg.size : Int) > 5000
    · rw [decide_eq_true h2]
      exact hj
    · rw [decide_eq_false h2, hamperlaw19_MetaOf.j0, if_neg (by decide)]
      refine bind_eq (of_f nf mf tf df (by omega)) ?_
      refine bind_eq (of_f ng mg tg dg (by omega)) ?_
      refine (if_pos (show nf.toList = nf.toList from rfl)).trans ?_
      refine (if_pos (show mf = mf from rfl)).trans ?_
      refine (if_pos (show tf = tf from rfl)).trans ?_
      refine (if_pos (show (df.size : Int) = (df.size : Int) from rfl)).trans ?_
      refine bind_eq (of_sum df (by omega)) ?_
      have e : ((Bk.blakeSum df).toList != (Bk.blakeSum df).toList) = false := bne_self_eq_false _
      have hl := of_j1 67 nf mf tf df ng mg tg dg (by omega) (by omega)
      rw [← e] at hl
      exact hl
end Go.Proofs.YteplphpbpaojjaaDoor.Me
namespace Go.Proofs.YteplphpbpaojjaaDoor.Me
open Go.RowKit Go.Lib Go.Proofs.YteplphpbpaojjaaDoorW.PrintWords Go.Proofs.YteplphpbpaojjaaDoorW.PrintLast Go.Proofs.YteplphpbpaojjaaDoorW.PrintMore Go.Proofs.YteplphpbpaojjaaDoor.PMa Go.Proofs.YteplphpbpaojjaaDoor.Pb
set_option linter.unusedVariables false
theorem MetaOf_walk (nf : ByteArray) (mf tf : Int) (df ng : ByteArray) (mg tg : Int) (dg : ByteArray) (w : World) (_ : nf.size ≤ maxLen) (_ : (Lit.int .i64 mf).wf = true) (_ : (Lit.int .i64 tf).wf = true) (_ : df.size ≤ maxLen) (_ : ng.size ≤ maxLen) (_ : (Lit.int .i64 mg).wf = true) (_ : (Lit.int .i64 tg).wf = true) (_ : dg.size ≤ maxLen) (hT : Tabs w) :
    Calls Tryd.prog 7 #[.agg #[.string nf, .int .i64 mf, .int .i64 tf, .string df], .agg #[.string ng, .int .i64 mg, .int .i64 tg, .string dg]] w fun e w' => e = .returned (.bool true) ∧ Below w.heap.size w w' :=
  hamperlaw19_MetaOf.calls 70 nf mf tf df ng mg tg dg true w hT (MetaOf nf mf tf df ng mg tg dg)
end Go.Proofs.YteplphpbpaojjaaDoor.Me
